import Derived.Test.YtdoghjmanogelaaSy
import Derived.Test.YtdoghjmanogelaaUg
import Derived.Test.YtdoghjmanogelaaSi
import Derived.Test.YtdoghjmanogelaaSt
import Derived.Test.YtdoghjmanogelaaUm
import Derived.IntWalk
import Derived.BigQuiet
import Derived.Deep.RegionHeld3
namespace Go.Proofs.Ytdoghjmanogelaa.K
open Go.RowKit Go.Proofs.YtdoghjmanogelaaW.PrintWords Go.Proofs.YtdoghjmanogelaaW.PrintLast Go.Proofs.YtdoghjmanogelaaW.PrintMore
set_option linter.unusedVariables false
set_option linter.unusedSimpArgs false
set_option maxRecDepth 100000

theorem state_boundC {s : QS} (h : okQS s) : SBound s :=
  ⟨fun b hb f hf v hv => (wf_i64 (((h.2.2.1.2 b hb).2 f hf).2.2.2 v hv).2).2, fun x hx v hv => (wf_i64 ((h.2.1.2 x hx).2.1.2 v hv).2).2, fun x hx v hv => (wf_i64 ((h.2.1.2 x hx).2.2.1.2 v hv)).2⟩
theorem same_StateD (w : World) (P1 P2 P3 Q1 Q2 Q3 : Option Addr) (Pc1 Pc2 Pc3 Qc1 Qc2 Qc3 : Nat) (s s' : QS) (ros ros' : List RO) (rbs rbs' : List RB) (L L' : List (List RF)) (h : SView w P1 P2 P3 (CanonQ s) ros rbs L) (h' : SView w Q1 Q2 Q3 (CanonQ s') ros' rbs' L') :
    Calls Try.prog 22 #[.agg #[.slice P1 (CanonQ s).texts.length Pc1, .slice P2 (CanonQ s).objs.length Pc2, .slice P3 (CanonQ s).fibers.length Pc3, .int .i64 s.cur, .int .i64 s.steps, .int .i64 s.spent, .int .i64 s.read], .agg #[.slice Q1 (CanonQ s').texts.length Qc1, .slice Q2 (CanonQ s').objs.length Qc2, .slice Q3 (CanonQ s').fibers.length Qc3, .int .i64 s'.cur, .int .i64 s'.steps, .int .i64 s'.spent, .int .i64 s'.read]] w (Told (CanonQ s = CanonQ s') w) := same_State w P1 P2 P3 Q1 Q2 Q3 Pc1 Pc2 Pc3 Qc1 Qc2 Qc3 (CanonQ s) (CanonQ s') ros ros' rbs rbs' L L' h h'
theorem fiber_at {w : World} {lo k c : Nat} {v1 v2 : SV} {A : Option Addr} {s : QS} {ros : List RO} {Z : List (RB × List RF)} {n : Nat} {bd : Addr} {z : RB × List RF} (h : SOwn w lo v1 v2 (A, n, c) s ros Z) (hA : A = some bd) (hz : Z[k]? = some z) (hk : k < n) : w.cell? (bd.add k) = some (.slice z.1.frames.1 z.1.frames.2.1 z.1.frames.2.2) := by
  obtain ⟨bd', q, e1, e2, z0⟩ := atRB h.b.toC k hk
  simp only at e1
  rw [hA] at e1
  injection e1 with e1
  subst e1
  rw [List.getElem?_map, hz] at e2
  injection e2 with e2
  rw [← e2] at z0
  exact z0
/-- A state that was lent, somewhat written over. -/
def MRel (w0 : World) (lo hi : Nat) (v1 v2 v3 : SV) (s : QS) (Z : List (RB × List RF)) (wr : World) : Prop := ∃ (s1 : QS) (ros1 : List RO), Alike s s1 ∧ SOwn wr lo v1 v2 v3 s1 ros1 Z ∧ Chg (fun j => lo ≤ j ∧ j < hi) w0 wr
def MRelN (m : Nat) (w0 : World) (lo hi : Nat) (v1 v2 v3 : SV) (s : QS) (Z : List (RB × List RF)) (i : Value) (wr : World) : Prop := ∃ k : Nat, i = .int .i64 k ∧ k ≤ m ∧ MRel w0 lo hi v1 v2 v3 s Z wr
set_option maxHeartbeats 4000000
theorem law_statesCanon (w : World) (tA oA bA tA' oA' bA' : Option Addr) (tc oc bc tc' oc' bc' : Nat) (s s' : QS) (ros ros' : List RO) (rbs rbs' : List RB) (L L' : List (List RF)) (h : SView w tA oA bA s ros rbs L) (h' : SView w tA' oA' bA' s' ros' rbs' L') (hs : SSmall s) (hs' : SSmall s') (hb : SBound s) (hb' : SBound s') (hr : (rowsS s).length ≤ 1048576) :
    Calls Try.prog 5 #[.agg #[.slice tA s.texts.length tc, .slice oA s.objs.length oc, .slice bA s.fibers.length bc, .int .i64 s.cur, .int .i64 s.steps, .int .i64 s.spent, .int .i64 s.read], .agg #[.slice tA' s'.texts.length tc', .slice oA' s'.objs.length oc', .slice bA' s'.fibers.length bc', .int .i64 s'.cur, .int .i64 s'.steps, .int .i64 s'.spent, .int .i64 s'.read]] w fun e w' => e = .returned (.bool true) ∧ Below w.heap.size w w' := by
  have hV := Aside0.mk h
  have hV2 := Aside0.mk h'
  have hS := Aside0.mk hs
  have hS2 := Aside0.mk hs'
  have hD := Aside0.mk hb
  have hD2 := Aside0.mk hb'
  have hrl := Aside0.mk hr
  clear h h' hs hs' hb hb' hr
  go_enter Try.func5, Try.ntmps5
  go_upto_region 1 with (fail)
  (try simp only [Act.put, List.setIfInBounds_toArray, List.set_cons_zero, List.set_cons_succ])
  generalize hW : World.alloc (World.alloc w _) _ = W0
  have B1 : Aside0 (W0.heap[w.heap.size]? = some (.cells #[.slice tA s.texts.length tc, .slice oA s.objs.length oc, .slice bA s.fibers.length bc, .int .i64 s.cur, .int .i64 s.steps, .int .i64 s.spent, .int .i64 s.read] 40)) := ⟨by rw [← hW]; exact ((Chg.refl (fun _ => False) (w.alloc _)).alloc _).blk (heap_alloc_new w _) (fun e => e)⟩
  have B2 : Aside0 (W0.heap[w.heap.size + 1]? = some (.cells #[.slice tA' s'.texts.length tc', .slice oA' s'.objs.length oc', .slice bA' s'.fibers.length bc', .int .i64 s'.cur, .int .i64 s'.steps, .int .i64 s'.spent, .int .i64 s'.read] 40)) := ⟨by rw [← hW]; exact heap_alloc2_new w _ _⟩
  have hz0 : Aside0 (Chg (fun _ => False) w W0) := ⟨by rw [← hW]; exact cg⟩
  clear hW
  have hgtW := Aside0.mk (blk_lt B2.out)
  have p0 : W0.cell? ⟨w.heap.size, 0, none⟩ = some (.slice tA s.texts.length tc) := blk_cell B1.out 0
  have p1 : W0.cell? ⟨w.heap.size, 1, none⟩ = some (.slice oA s.objs.length oc) := blk_cell B1.out 1
  have p2 : W0.cell? ⟨w.heap.size, 2, none⟩ = some (.slice bA s.fibers.length bc) := blk_cell B1.out 2
  have p3 : W0.cell? ⟨w.heap.size, 3, none⟩ = some (.int .i64 s.cur) := blk_cell B1.out 3
  have p4 : W0.cell? ⟨w.heap.size, 4, none⟩ = some (.int .i64 s.steps) := blk_cell B1.out 4
  have p5 : W0.cell? ⟨w.heap.size, 5, none⟩ = some (.int .i64 s.spent) := blk_cell B1.out 5
  have p6 : W0.cell? ⟨w.heap.size, 6, none⟩ = some (.int .i64 s.read) := blk_cell B1.out 6
  go_upto_region 2 with ((go_at_call 20; go_must (refine (ref_Canon _ tA oA bA tc oc bc s ros rbs L (hV.out.below bl) hS.out hD.out).mono ?_); go_must (rintro e w1 ⟨⟨P1, Pn1, Pc1⟩, ⟨P2, Pn2, Pc2⟩, ⟨P3, Pn3, Pc3⟩, Pro, PZ, rfl, hO1, hc1⟩); go_must (simp only [svl]); go_must (obtain rfl : Pn1 = (CanonQ s).texts.length := (hO1.t.len).1); go_must (obtain rfl : Pn2 = (CanonQ s).objs.length := (hO1.o.len).1.trans hO1.oc.1); go_must (obtain rfl : Pn3 = (CanonQ s).fibers.length := (hO1.b.len).1.trans (by rw [List.length_map]; exact hO1.bc.1)); go_must (replace hc1 := Aside0.mk hc1); go_must (replace hO1 := Aside0.mk hO1)))
  (try simp only [Act.put, List.setIfInBounds_toArray, List.set_cons_zero, List.set_cons_succ])
  clear p0 p1 p2 p3 p4 p5 p6
  generalize hW : World.alloc w1 _ = W1
  obtain ⟨gw, hgw⟩ : ∃ g, g = w1.heap.size := ⟨_, rfl⟩
  rw [← hgw]
  have B3 : Aside0 (W1.heap[gw]? = some (.cells #[.slice P1 (CanonQ s).texts.length Pc1, .slice P2 (CanonQ s).objs.length Pc2, .slice P3 (CanonQ s).fibers.length Pc3, .int .i64 s.cur, .int .i64 s.steps, .int .i64 s.spent, .int .i64 s.read] 40)) := ⟨by rw [hgw, ← hW]; exact heap_alloc_new w1 _⟩
  have hzgw : Aside0 (Chg (fun _ => False) w1 W1) := ⟨by rw [← hW]; exact cg⟩
  have hqgw := Aside0.mk hgw
  clear hW hgw
  replace B1 := Aside0.mk (hzgw.out.blk (hc1.out.blk B1.out (fun h => h)) (fun h => h))
  replace B2 := Aside0.mk (hzgw.out.blk (hc1.out.blk B2.out (fun h => h)) (fun h => h))
  have hgwl := Aside0.mk (blk_lt B3.out)
  have hWv := Aside0.mk hO1.out.view
  simp only at hWv
  have p0 : W1.cell? ⟨w.heap.size, 0, none⟩ = some (.slice tA s.texts.length tc) := blk_cell B1.out 0
  have p1 : W1.cell? ⟨w.heap.size, 1, none⟩ = some (.slice oA s.objs.length oc) := blk_cell B1.out 1
  have p2 : W1.cell? ⟨w.heap.size, 2, none⟩ = some (.slice bA s.fibers.length bc) := blk_cell B1.out 2
  have p3 : W1.cell? ⟨w.heap.size, 3, none⟩ = some (.int .i64 s.cur) := blk_cell B1.out 3
  have p4 : W1.cell? ⟨w.heap.size, 4, none⟩ = some (.int .i64 s.steps) := blk_cell B1.out 4
  have p5 : W1.cell? ⟨w.heap.size, 5, none⟩ = some (.int .i64 s.spent) := blk_cell B1.out 5
  have p6 : W1.cell? ⟨w.heap.size, 6, none⟩ = some (.int .i64 s.read) := blk_cell B1.out 6
  go_upto_region 3 with ((go_at_call 14; go_must (refine (law_lent _ tA oA bA tc oc bc s ros rbs L (hV.out.below bl) hS.out hrl.out).mono ?_); go_must (rintro e w2 ⟨⟨A1, n1, c1⟩, ⟨A2, n2, c2⟩, ⟨A3, n3, c3⟩, ⟨rA, rn, rc⟩, ro2, Z2, ms2, rfl, hO2, hR2, hM2, hc2⟩); go_must (simp only [svl]); go_must (obtain rfl : n1 = s.texts.length := (hO2.t.len).1); go_must (obtain rfl : n2 = s.objs.length := (hO2.o.len).1.trans hO2.oc.1); go_must (obtain rfl : n3 = s.fibers.length := (hO2.b.len).1.trans (by rw [List.length_map]; exact hO2.bc.1)); go_must (replace hc2 := Aside0.mk hc2); go_must (replace hR2 := Aside0.mk hR2); go_must (replace hM2 := Aside0.mk hM2); go_must (replace hO2 := Aside0.mk hO2)))
  (try simp only [Act.put, List.setIfInBounds_toArray, List.set_cons_zero, List.set_cons_succ])
  clear p0 p1 p2 p3 p4 p5 p6
  generalize hW : World.alloc w2 _ = W2
  obtain ⟨gi, hgi⟩ : ∃ g, g = w2.heap.size := ⟨_, rfl⟩
  rw [← hgi]
  have B4 : Aside0 (W2.heap[gi]? = some (.cells #[.slice A1 s.texts.length c1, .slice A2 s.objs.length c2, .slice A3 s.fibers.length c3, .int .i64 s.cur, .int .i64 s.steps, .int .i64 s.spent, .int .i64 s.read] 40)) := ⟨by rw [hgi, ← hW]; exact heap_alloc_new w2 _⟩
  have hzgi : Aside0 (Chg (fun _ => False) w2 W2) := ⟨by rw [← hW]; exact cg⟩
  have hqgi := Aside0.mk hgi
  clear hW hgi
  replace B1 := Aside0.mk (hzgi.out.blk (hc2.out.blk B1.out (fun h => h)) (fun h => h))
  replace B2 := Aside0.mk (hzgi.out.blk (hc2.out.blk B2.out (fun h => h)) (fun h => h))
  replace B3 := Aside0.mk (hzgi.out.blk (hc2.out.blk B3.out (fun h => h)) (fun h => h))
  have hIv := Aside0.mk hO2.out.view
  simp only at hIv
  have hml := Aside0.mk hM2.out.1
  have i0 : W2.cell? ⟨gi, 0, none⟩ = some (.slice A1 s.texts.length c1) := blk_cell B4.out 0
  have i1 : W2.cell? ⟨gi, 1, none⟩ = some (.slice A2 s.objs.length c2) := blk_cell B4.out 1
  have i2 : W2.cell? ⟨gi, 2, none⟩ = some (.slice A3 s.fibers.length c3) := blk_cell B4.out 2
  have i3 : W2.cell? ⟨gi, 3, none⟩ = some (.int .i64 s.cur) := blk_cell B4.out 3
  have i4 : W2.cell? ⟨gi, 4, none⟩ = some (.int .i64 s.steps) := blk_cell B4.out 4
  have i5 : W2.cell? ⟨gi, 5, none⟩ = some (.int .i64 s.spent) := blk_cell B4.out 5
  have i6 : W2.cell? ⟨gi, 6, none⟩ = some (.int .i64 s.read) := blk_cell B4.out 6
  go_upto_region 4 with ((go_at_call 21; go_must (refine (st_Canon _ A1 A2 A3 c1 c2 c3 s ro2 (Z2.map (·.1)) (Z2.map (·.2)) (hIv.out.below bl) hS.out hD.out).mono ?_); go_must (rintro e w3 ⟨⟨Q1, Qn1, Qc1⟩, ⟨Q2, Qn2, Qc2⟩, ⟨Q3, Qn3, Qc3⟩, Qro, QZ, rfl, hO3, hc3⟩); go_must (simp only [svl]); go_must (obtain rfl : Qn1 = (CanonQ s).texts.length := (hO3.t.len).1); go_must (obtain rfl : Qn2 = (CanonQ s).objs.length := (hO3.o.len).1.trans hO3.oc.1); go_must (obtain rfl : Qn3 = (CanonQ s).fibers.length := (hO3.b.len).1.trans (by rw [List.length_map]; exact hO3.bc.1)); go_must (replace hc3 := Aside0.mk hc3); go_must (replace hO3 := Aside0.mk hO3)))
  (try simp only [Act.put, List.setIfInBounds_toArray, List.set_cons_zero, List.set_cons_succ])
  clear i0 i1 i2 i3 i4 i5 i6
  generalize hW : World.alloc w3 _ = W3
  obtain ⟨ga, hga⟩ : ∃ g, g = w3.heap.size := ⟨_, rfl⟩
  rw [← hga]
  have B5 : Aside0 (W3.heap[ga]? = some (.cells #[.slice Q1 (CanonQ s).texts.length Qc1, .slice Q2 (CanonQ s).objs.length Qc2, .slice Q3 (CanonQ s).fibers.length Qc3, .int .i64 s.cur, .int .i64 s.steps, .int .i64 s.spent, .int .i64 s.read] 40)) := ⟨by rw [hga, ← hW]; exact heap_alloc_new w3 _⟩
  have hzga : Aside0 (Chg (fun _ => False) w3 W3) := ⟨by rw [← hW]; exact cg⟩
  have hqga := Aside0.mk hga
  clear hW hga
  replace B1 := Aside0.mk (hzga.out.blk (hc3.out.blk B1.out (fun h => h)) (fun h => h))
  replace B2 := Aside0.mk (hzga.out.blk (hc3.out.blk B2.out (fun h => h)) (fun h => h))
  replace B3 := Aside0.mk (hzga.out.blk (hc3.out.blk B3.out (fun h => h)) (fun h => h))
  replace B4 := Aside0.mk (hzga.out.blk (hc3.out.blk B4.out (fun h => h)) (fun h => h))
  have hAv := Aside0.mk hO3.out.view
  simp only at hAv
  have i0 : W3.cell? ⟨gi, 0, none⟩ = some (.slice A1 s.texts.length c1) := blk_cell B4.out 0
  have i1 : W3.cell? ⟨gi, 1, none⟩ = some (.slice A2 s.objs.length c2) := blk_cell B4.out 1
  have i2 : W3.cell? ⟨gi, 2, none⟩ = some (.slice A3 s.fibers.length c3) := blk_cell B4.out 2
  have i3 : W3.cell? ⟨gi, 3, none⟩ = some (.int .i64 s.cur) := blk_cell B4.out 3
  have i4 : W3.cell? ⟨gi, 4, none⟩ = some (.int .i64 s.steps) := blk_cell B4.out 4
  have i5 : W3.cell? ⟨gi, 5, none⟩ = some (.int .i64 s.spent) := blk_cell B4.out 5
  have i6 : W3.cell? ⟨gi, 6, none⟩ = some (.int .i64 s.read) := blk_cell B4.out 6
  go_upto_region 5 with ((go_at_call 21; go_must (refine (st_Canon _ A1 A2 A3 c1 c2 c3 s ro2 (Z2.map (·.1)) (Z2.map (·.2)) (hIv.out.below bl) hS.out hD.out).mono ?_); go_must (rintro e w4 ⟨⟨E1, En1, Ec1⟩, ⟨E2, En2, Ec2⟩, ⟨E3, En3, Ec3⟩, Ero, EZ, rfl, hO4, hc4⟩); go_must (simp only [svl]); go_must (obtain rfl : En1 = (CanonQ s).texts.length := (hO4.t.len).1); go_must (obtain rfl : En2 = (CanonQ s).objs.length := (hO4.o.len).1.trans hO4.oc.1); go_must (obtain rfl : En3 = (CanonQ s).fibers.length := (hO4.b.len).1.trans (by rw [List.length_map]; exact hO4.bc.1)); go_must (replace hc4 := Aside0.mk hc4); go_must (replace hO4 := Aside0.mk hO4)))
  (try simp only [Act.put, List.setIfInBounds_toArray, List.set_cons_zero, List.set_cons_succ])
  clear i0 i1 i2 i3 i4 i5 i6
  generalize hW : World.alloc w4 _ = W4
  obtain ⟨gb, hgb⟩ : ∃ g, g = w4.heap.size := ⟨_, rfl⟩
  rw [← hgb]
  have B6 : Aside0 (W4.heap[gb]? = some (.cells #[.slice E1 (CanonQ s).texts.length Ec1, .slice E2 (CanonQ s).objs.length Ec2, .slice E3 (CanonQ s).fibers.length Ec3, .int .i64 s.cur, .int .i64 s.steps, .int .i64 s.spent, .int .i64 s.read] 40)) := ⟨by rw [hgb, ← hW]; exact heap_alloc_new w4 _⟩
  have hzgb : Aside0 (Chg (fun _ => False) w4 W4) := ⟨by rw [← hW]; exact cg⟩
  have hqgb := Aside0.mk hgb
  clear hW hgb
  replace B1 := Aside0.mk (hzgb.out.blk (hc4.out.blk B1.out (fun h => h)) (fun h => h))
  replace B2 := Aside0.mk (hzgb.out.blk (hc4.out.blk B2.out (fun h => h)) (fun h => h))
  replace B3 := Aside0.mk (hzgb.out.blk (hc4.out.blk B3.out (fun h => h)) (fun h => h))
  replace B4 := Aside0.mk (hzgb.out.blk (hc4.out.blk B4.out (fun h => h)) (fun h => h))
  replace B5 := Aside0.mk (hzgb.out.blk (hc4.out.blk B5.out (fun h => h)) (fun h => h))
  have hBv := Aside0.mk hO4.out.view
  simp only at hBv
  have a0 : W4.cell? ⟨ga, 0, none⟩ = some (.slice Q1 (CanonQ s).texts.length Qc1) := blk_cell B5.out 0
  have a1 : W4.cell? ⟨ga, 1, none⟩ = some (.slice Q2 (CanonQ s).objs.length Qc2) := blk_cell B5.out 1
  have a2 : W4.cell? ⟨ga, 2, none⟩ = some (.slice Q3 (CanonQ s).fibers.length Qc3) := blk_cell B5.out 2
  have a3 : W4.cell? ⟨ga, 3, none⟩ = some (.int .i64 s.cur) := blk_cell B5.out 3
  have a4 : W4.cell? ⟨ga, 4, none⟩ = some (.int .i64 s.steps) := blk_cell B5.out 4
  have a5 : W4.cell? ⟨ga, 5, none⟩ = some (.int .i64 s.spent) := blk_cell B5.out 5
  have a6 : W4.cell? ⟨ga, 6, none⟩ = some (.int .i64 s.read) := blk_cell B5.out 6
  have p0 : W4.cell? ⟨gw, 0, none⟩ = some (.slice P1 (CanonQ s).texts.length Pc1) := blk_cell B3.out 0
  have p1 : W4.cell? ⟨gw, 1, none⟩ = some (.slice P2 (CanonQ s).objs.length Pc2) := blk_cell B3.out 1
  have p2 : W4.cell? ⟨gw, 2, none⟩ = some (.slice P3 (CanonQ s).fibers.length Pc3) := blk_cell B3.out 2
  have p3 : W4.cell? ⟨gw, 3, none⟩ = some (.int .i64 s.cur) := blk_cell B3.out 3
  have p4 : W4.cell? ⟨gw, 4, none⟩ = some (.int .i64 s.steps) := blk_cell B3.out 4
  have p5 : W4.cell? ⟨gw, 5, none⟩ = some (.int .i64 s.spent) := blk_cell B3.out 5
  have p6 : W4.cell? ⟨gw, 6, none⟩ = some (.int .i64 s.read) := blk_cell B3.out 6
  go_upto_region 7 with (first | (go_at_call 22; (with_reducible refine (told_yes (same_StateD _ Q1 Q2 Q3 P1 P2 P3 Qc1 Qc2 Qc3 Pc1 Pc2 Pc3 s s Qro Pro (QZ.map (·.1)) (PZ.map (·.1)) (QZ.map (·.2)) (PZ.map (·.2)) (hAv.out.below bl) (hWv.out.below bl)) rfl).mono ?_); go_must (rintro e w5 ⟨rfl, hc5⟩); go_must (replace hc5 := Aside0.mk hc5); go_must (have p5_0 : w5.cell? ⟨gb, 0, none⟩ = some (.slice E1 (CanonQ s).texts.length Ec1) := blk_cell (cs := #[.slice E1 (CanonQ s).texts.length Ec1, .slice E2 (CanonQ s).objs.length Ec2, .slice E3 (CanonQ s).fibers.length Ec3, .int .i64 s.cur, .int .i64 s.steps, .int .i64 s.spent, .int .i64 s.read]) (t := 40) bk 0); go_must (have p5_1 : w5.cell? ⟨gb, 1, none⟩ = some (.slice E2 (CanonQ s).objs.length Ec2) := blk_cell (cs := #[.slice E1 (CanonQ s).texts.length Ec1, .slice E2 (CanonQ s).objs.length Ec2, .slice E3 (CanonQ s).fibers.length Ec3, .int .i64 s.cur, .int .i64 s.steps, .int .i64 s.spent, .int .i64 s.read]) (t := 40) bk 1); go_must (have p5_2 : w5.cell? ⟨gb, 2, none⟩ = some (.slice E3 (CanonQ s).fibers.length Ec3) := blk_cell (cs := #[.slice E1 (CanonQ s).texts.length Ec1, .slice E2 (CanonQ s).objs.length Ec2, .slice E3 (CanonQ s).fibers.length Ec3, .int .i64 s.cur, .int .i64 s.steps, .int .i64 s.spent, .int .i64 s.read]) (t := 40) bk 2); go_must (have p5_3 : w5.cell? ⟨gb, 3, none⟩ = some (.int .i64 s.cur) := blk_cell (cs := #[.slice E1 (CanonQ s).texts.length Ec1, .slice E2 (CanonQ s).objs.length Ec2, .slice E3 (CanonQ s).fibers.length Ec3, .int .i64 s.cur, .int .i64 s.steps, .int .i64 s.spent, .int .i64 s.read]) (t := 40) bk 3); go_must (have p5_4 : w5.cell? ⟨gb, 4, none⟩ = some (.int .i64 s.steps) := blk_cell (cs := #[.slice E1 (CanonQ s).texts.length Ec1, .slice E2 (CanonQ s).objs.length Ec2, .slice E3 (CanonQ s).fibers.length Ec3, .int .i64 s.cur, .int .i64 s.steps, .int .i64 s.spent, .int .i64 s.read]) (t := 40) bk 4); go_must (have p5_5 : w5.cell? ⟨gb, 5, none⟩ = some (.int .i64 s.spent) := blk_cell (cs := #[.slice E1 (CanonQ s).texts.length Ec1, .slice E2 (CanonQ s).objs.length Ec2, .slice E3 (CanonQ s).fibers.length Ec3, .int .i64 s.cur, .int .i64 s.steps, .int .i64 s.spent, .int .i64 s.read]) (t := 40) bk 5); go_must (have p5_6 : w5.cell? ⟨gb, 6, none⟩ = some (.int .i64 s.read) := blk_cell (cs := #[.slice E1 (CanonQ s).texts.length Ec1, .slice E2 (CanonQ s).objs.length Ec2, .slice E3 (CanonQ s).fibers.length Ec3, .int .i64 s.cur, .int .i64 s.steps, .int .i64 s.spent, .int .i64 s.read]) (t := 40) bk 6); go_must (have p5_7 : w5.cell? ⟨gw, 0, none⟩ = some (.slice P1 (CanonQ s).texts.length Pc1) := blk_cell (cs := #[.slice P1 (CanonQ s).texts.length Pc1, .slice P2 (CanonQ s).objs.length Pc2, .slice P3 (CanonQ s).fibers.length Pc3, .int .i64 s.cur, .int .i64 s.steps, .int .i64 s.spent, .int .i64 s.read]) (t := 40) bk 0); go_must (have p5_8 : w5.cell? ⟨gw, 1, none⟩ = some (.slice P2 (CanonQ s).objs.length Pc2) := blk_cell (cs := #[.slice P1 (CanonQ s).texts.length Pc1, .slice P2 (CanonQ s).objs.length Pc2, .slice P3 (CanonQ s).fibers.length Pc3, .int .i64 s.cur, .int .i64 s.steps, .int .i64 s.spent, .int .i64 s.read]) (t := 40) bk 1); go_must (have p5_9 : w5.cell? ⟨gw, 2, none⟩ = some (.slice P3 (CanonQ s).fibers.length Pc3) := blk_cell (cs := #[.slice P1 (CanonQ s).texts.length Pc1, .slice P2 (CanonQ s).objs.length Pc2, .slice P3 (CanonQ s).fibers.length Pc3, .int .i64 s.cur, .int .i64 s.steps, .int .i64 s.spent, .int .i64 s.read]) (t := 40) bk 2); go_must (have p5_10 : w5.cell? ⟨gw, 3, none⟩ = some (.int .i64 s.cur) := blk_cell (cs := #[.slice P1 (CanonQ s).texts.length Pc1, .slice P2 (CanonQ s).objs.length Pc2, .slice P3 (CanonQ s).fibers.length Pc3, .int .i64 s.cur, .int .i64 s.steps, .int .i64 s.spent, .int .i64 s.read]) (t := 40) bk 3); go_must (have p5_11 : w5.cell? ⟨gw, 4, none⟩ = some (.int .i64 s.steps) := blk_cell (cs := #[.slice P1 (CanonQ s).texts.length Pc1, .slice P2 (CanonQ s).objs.length Pc2, .slice P3 (CanonQ s).fibers.length Pc3, .int .i64 s.cur, .int .i64 s.steps, .int .i64 s.spent, .int .i64 s.read]) (t := 40) bk 4); go_must (have p5_12 : w5.cell? ⟨gw, 5, none⟩ = some (.int .i64 s.spent) := blk_cell (cs := #[.slice P1 (CanonQ s).texts.length Pc1, .slice P2 (CanonQ s).objs.length Pc2, .slice P3 (CanonQ s).fibers.length Pc3, .int .i64 s.cur, .int .i64 s.steps, .int .i64 s.spent, .int .i64 s.read]) (t := 40) bk 5); go_must (have p5_13 : w5.cell? ⟨gw, 6, none⟩ = some (.int .i64 s.read) := blk_cell (cs := #[.slice P1 (CanonQ s).texts.length Pc1, .slice P2 (CanonQ s).objs.length Pc2, .slice P3 (CanonQ s).fibers.length Pc3, .int .i64 s.cur, .int .i64 s.steps, .int .i64 s.spent, .int .i64 s.read]) (t := 40) bk 6)) | (go_at_call 22; (with_reducible refine (told_yes (same_StateD _ E1 E2 E3 P1 P2 P3 Ec1 Ec2 Ec3 Pc1 Pc2 Pc3 s s Ero Pro (EZ.map (·.1)) (PZ.map (·.1)) (EZ.map (·.2)) (PZ.map (·.2)) (hBv.out.below bl) (hWv.out.below bl)) rfl).mono ?_); go_must (rintro e w6 ⟨rfl, hc6⟩); go_must (replace hc6 := Aside0.mk hc6); go_must (have p6_0 : w6.cell? ⟨gi, 0, none⟩ = some (.slice A1 s.texts.length c1) := blk_cell (cs := #[.slice A1 s.texts.length c1, .slice A2 s.objs.length c2, .slice A3 s.fibers.length c3, .int .i64 s.cur, .int .i64 s.steps, .int .i64 s.spent, .int .i64 s.read]) (t := 40) bk 0); go_must (have p6_1 : w6.cell? ⟨gi, 1, none⟩ = some (.slice A2 s.objs.length c2) := blk_cell (cs := #[.slice A1 s.texts.length c1, .slice A2 s.objs.length c2, .slice A3 s.fibers.length c3, .int .i64 s.cur, .int .i64 s.steps, .int .i64 s.spent, .int .i64 s.read]) (t := 40) bk 1); go_must (have p6_2 : w6.cell? ⟨gi, 2, none⟩ = some (.slice A3 s.fibers.length c3) := blk_cell (cs := #[.slice A1 s.texts.length c1, .slice A2 s.objs.length c2, .slice A3 s.fibers.length c3, .int .i64 s.cur, .int .i64 s.steps, .int .i64 s.spent, .int .i64 s.read]) (t := 40) bk 2); go_must (have p6_3 : w6.cell? ⟨gi, 3, none⟩ = some (.int .i64 s.cur) := blk_cell (cs := #[.slice A1 s.texts.length c1, .slice A2 s.objs.length c2, .slice A3 s.fibers.length c3, .int .i64 s.cur, .int .i64 s.steps, .int .i64 s.spent, .int .i64 s.read]) (t := 40) bk 3); go_must (have p6_4 : w6.cell? ⟨gi, 4, none⟩ = some (.int .i64 s.steps) := blk_cell (cs := #[.slice A1 s.texts.length c1, .slice A2 s.objs.length c2, .slice A3 s.fibers.length c3, .int .i64 s.cur, .int .i64 s.steps, .int .i64 s.spent, .int .i64 s.read]) (t := 40) bk 4); go_must (have p6_5 : w6.cell? ⟨gi, 5, none⟩ = some (.int .i64 s.spent) := blk_cell (cs := #[.slice A1 s.texts.length c1, .slice A2 s.objs.length c2, .slice A3 s.fibers.length c3, .int .i64 s.cur, .int .i64 s.steps, .int .i64 s.spent, .int .i64 s.read]) (t := 40) bk 5); go_must (have p6_6 : w6.cell? ⟨gi, 6, none⟩ = some (.int .i64 s.read) := blk_cell (cs := #[.slice A1 s.texts.length c1, .slice A2 s.objs.length c2, .slice A3 s.fibers.length c3, .int .i64 s.cur, .int .i64 s.steps, .int .i64 s.spent, .int .i64 s.read]) (t := 40) bk 6); go_must (have p6_7 : w6.cell? ⟨w.heap.size, 0, none⟩ = some (.slice tA s.texts.length tc) := blk_cell (cs := #[.slice tA s.texts.length tc, .slice oA s.objs.length oc, .slice bA s.fibers.length bc, .int .i64 s.cur, .int .i64 s.steps, .int .i64 s.spent, .int .i64 s.read]) (t := 40) bk 0); go_must (have p6_8 : w6.cell? ⟨w.heap.size, 1, none⟩ = some (.slice oA s.objs.length oc) := blk_cell (cs := #[.slice tA s.texts.length tc, .slice oA s.objs.length oc, .slice bA s.fibers.length bc, .int .i64 s.cur, .int .i64 s.steps, .int .i64 s.spent, .int .i64 s.read]) (t := 40) bk 1); go_must (have p6_9 : w6.cell? ⟨w.heap.size, 2, none⟩ = some (.slice bA s.fibers.length bc) := blk_cell (cs := #[.slice tA s.texts.length tc, .slice oA s.objs.length oc, .slice bA s.fibers.length bc, .int .i64 s.cur, .int .i64 s.steps, .int .i64 s.spent, .int .i64 s.read]) (t := 40) bk 2); go_must (have p6_10 : w6.cell? ⟨w.heap.size, 3, none⟩ = some (.int .i64 s.cur) := blk_cell (cs := #[.slice tA s.texts.length tc, .slice oA s.objs.length oc, .slice bA s.fibers.length bc, .int .i64 s.cur, .int .i64 s.steps, .int .i64 s.spent, .int .i64 s.read]) (t := 40) bk 3); go_must (have p6_11 : w6.cell? ⟨w.heap.size, 4, none⟩ = some (.int .i64 s.steps) := blk_cell (cs := #[.slice tA s.texts.length tc, .slice oA s.objs.length oc, .slice bA s.fibers.length bc, .int .i64 s.cur, .int .i64 s.steps, .int .i64 s.spent, .int .i64 s.read]) (t := 40) bk 4); go_must (have p6_12 : w6.cell? ⟨w.heap.size, 5, none⟩ = some (.int .i64 s.spent) := blk_cell (cs := #[.slice tA s.texts.length tc, .slice oA s.objs.length oc, .slice bA s.fibers.length bc, .int .i64 s.cur, .int .i64 s.steps, .int .i64 s.spent, .int .i64 s.read]) (t := 40) bk 5); go_must (have p6_13 : w6.cell? ⟨w.heap.size, 6, none⟩ = some (.int .i64 s.read) := blk_cell (cs := #[.slice tA s.texts.length tc, .slice oA s.objs.length oc, .slice bA s.fibers.length bc, .int .i64 s.cur, .int .i64 s.steps, .int .i64 s.spent, .int .i64 s.read]) (t := 40) bk 6)) | (go_at_call 19; (with_reducible refine (law_kept _ A1 A2 A3 tA oA bA rA c1 c2 c3 tc oc bc rn rc s ro2 ros (Z2.map (·.1)) rbs (Z2.map (·.2)) L ms2 (hIv.out.below bl) (hV.out.below bl) (Kd.C_below hR2.out.toC bl) hml.out (hM2.out.rooms.below bl) hS.out).mono ?_); go_must (rintro e w7 ⟨rfl, hc7⟩); go_must (replace hc7 := Aside0.mk hc7)))
  (try simp only [Act.put, List.setIfInBounds_toArray, List.set_cons_zero, List.set_cons_succ])
  have hB4 : Aside0 (w7.heap[gi]? = some (.cells #[.slice A1 s.texts.length c1, .slice A2 s.objs.length c2, .slice A3 s.fibers.length c3, .int .i64 s.cur, .int .i64 s.steps, .int .i64 s.spent, .int .i64 s.read] 40)) := ⟨bk⟩
  have hO7 : Aside0 (SOwn w7 W1.heap.size (A1, s.texts.length, c1) (A2, s.objs.length, c2) (A3, s.fibers.length, c3) s ro2 Z2) := ⟨hO2.out.hit (cg : Chg (fun _ => False) w2 w7) Hits.no⟩
  have hB2 : Aside0 (w7.heap[w.heap.size + 1]? = some (.cells #[.slice tA' s'.texts.length tc', .slice oA' s'.objs.length oc', .slice bA' s'.fibers.length bc', .int .i64 s'.cur, .int .i64 s'.steps, .int .i64 s'.spent, .int .i64 s'.read] 40)) := ⟨bk⟩
  have hfb := hS.out.b
  have hob := hS.out.o
  have hob2 := hS2.out.o
  clear a0 a1 a2 a3 a4 a5 a6 p0 p1 p2 p3 p4 p5 p6
  go_wp2
  go_loopw [10] (fun i wr => MRelN s.fibers.length w7 W1.heap.size w2.heap.size (A1, s.texts.length, c1) (A2, s.objs.length, c2) (A3, s.fibers.length, c3) s Z2 i wr) (fun i _ => s.fibers.length - (intOf i).toNat)
  case atStart => exact ⟨0, rfl, by omega, s, ro2, Alike.refl hS.out hD.out, hO7.out, Chg.refl _ _⟩
  case round =>
    obtain ⟨k, rfl, hk, s1, ros1, hAl, hSO, hCT⟩ := hrel
    have x2 : wr.cell? ⟨gi, 2, none⟩ = some (.slice A3 s.fibers.length c3) := blk_cell (hCT.blk hB4.out (fun h => by have := hqgi.out; omega)) 2
    by_cases hlt : k < s.fibers.length
    · obtain ⟨bd, q0, e1, e2, z0⟩ := atRB hSO.b.toC k hlt
      simp only at e1
      obtain ⟨z, hz, rfl⟩ := pair_at e2
      have hzA := Aside0.mk hz
      have e1A := Aside0.mk e1
      obtain ⟨⟨⟨fA, fN, fC⟩⟩, zr⟩ := z
      have hk0 : (0 : Int) ≤ k := by omega
      have hk1 : (k : Int) < s.fibers.length := by omega
      have hkA := Aside0.mk hlt
      have hfN : fN ≤ 1048576 := by
        obtain ⟨x, hx⟩ : ∃ x, s1.fibers[k]? = some x := ⟨_, List.getElem?_eq_getElem (by rw [hAl.fl]; exact hlt)⟩
        have hbc := hSO.bc.2 k _ x hz hx
        have h7 := hbc.1.len.1
        have h8 := hbc.2.1
        have h9 := (hAl.sm.bf x (List.mem_of_getElem? hx)).1
        (try simp only at h7)
        (try simp only at h8)
        omega
      clear e2 hz z0 e1
      go_wp2
      clear x2
      go_loopw [11] (fun i wr => MRelN fN w7 W1.heap.size w2.heap.size (A1, s.texts.length, c1) (A2, s.objs.length, c2) (A3, s.fibers.length, c3) s Z2 i wr) (fun i _ => fN - (intOf i).toNat)
      case atStart => exact ⟨0, rfl, by omega, s1, ros1, hAl, hSO, hCT⟩
      case round =>
        clear hAl hSO hCT
        obtain ⟨j, rfl, hj, s1, ros1, hAl, hSO, hCT⟩ := hrel
        have x2 : wr.cell? ⟨gi, 2, none⟩ = some (.slice (some bd) s.fibers.length c3) := by
          rw [← e1A.out]
          exact blk_cell (hCT.blk hB4.out (fun h => by have := hqgi.out; omega)) 2
        have z0 := fiber_at hSO e1A.out hzA.out hkA.out
        simp only at z0
        by_cases hlj : j < fN
        · obtain ⟨x, hx⟩ : ∃ x, s1.fibers[k]? = some x := ⟨_, List.getElem?_eq_getElem (by rw [hAl.fl]; exact hkA.out)⟩
          have hbc := hSO.bc.2 k _ x hzA.out hx
          obtain ⟨fd, q, e3, e4, y0, y1, y2⟩ := atRF hbc.1.toC j hlj
          simp only at e3
          subst e3
          obtain ⟨qn, qp, ⟨xA, xN, xC⟩⟩ := q
          have hqA := Aside0.mk e4
          have hj0 : (0 : Int) ≤ j := by omega
          have hj1 : (j : Int) < fN := by omega
          have hxN : xN ≤ 1048576 := by
            obtain ⟨f, hf⟩ : ∃ f, x.frames[j]? = some f := ⟨_, List.getElem?_eq_getElem (by have h7 := hbc.2.1; have h8 := (List.getElem?_eq_some_iff.1 e4).1; (try simp only at h7); (try simp only at h8); omega)⟩
            have hsl := (hbc.2.2 j _ f e4 hf).2.2
            simp only at hsl
            have h7 := hsl.len.1
            have h9 := (hAl.sm.bf x (List.mem_of_getElem? hx)).2 f (List.mem_of_getElem? hf)
            omega
          clear e4 hbc hx y0 y1
          go_wp2
          clear x2 z0 y2
          go_loopw [13] (fun i wr => MRelN xN w7 W1.heap.size w2.heap.size (A1, s.texts.length, c1) (A2, s.objs.length, c2) (A3, s.fibers.length, c3) s Z2 i wr) (fun i _ => xN - (intOf i).toNat)
          case atStart => exact ⟨0, rfl, by omega, s1, ros1, hAl, hSO, hCT⟩
          case round =>
            clear hAl hSO hCT
            obtain ⟨n, rfl, hn, s1, ros1, hAl, hSO, hCT⟩ := hrel
            by_cases hln : n < xN
            · obtain ⟨x, hx⟩ : ∃ x, s1.fibers[k]? = some x := ⟨_, List.getElem?_eq_getElem (by rw [hAl.fl]; exact hkA.out)⟩
              have hbc := hSO.bc.2 k _ x hzA.out hx
              obtain ⟨f, hf⟩ : ∃ f, x.frames[j]? = some f := ⟨_, List.getElem?_eq_getElem (by have h7 := hbc.2.1; have h8 := (List.getElem?_eq_some_iff.1 hqA.out).1; (try simp only at h7); (try simp only at h8); omega)⟩
              have hsl := (hbc.2.2 j _ f hqA.out hf).2.2
              simp only at hsl
              obtain ⟨bd2, yk, yn, e3, e4, y0, y1⟩ := kQV_at hsl.toC n hln
              obtain ⟨g9, e5⟩ := hsl.some (by have := hsl.len.1; omega)
              subst e5
              injection e3 with e3
              subst e3
              rw [add_plain] at y0 y1
              simp only at y0 y1
              obtain ⟨cu, hcu⟩ := Kd.R_typed hsl.1 g9 rfl
              have f0 := blk_frozen hcu (n * 2)
              have f1 := blk_frozen hcu (n * 2 + 1)
              have hcuA := Aside0.mk hcu
              have hn0 : (0 : Int) ≤ n := by omega
              have hn1 : (n : Int) < xN := by omega
              clear e4 hx hf hbc hsl hcu
              go_wp2
              go_roundw
              case measure => first | (simp [intOf]; done) | (simp [intOf]; omega)
              case rel =>
                have hg9 : g9 < w2.heap.size := by
                  obtain ⟨x, hx⟩ : ∃ x, s.fibers[k]? = some x := ⟨_, List.getElem?_eq_getElem hkA.out⟩
                  have hbc := hO2.out.bc.2 k _ x hzA.out hx
                  obtain ⟨f, hf⟩ : ∃ f, x.frames[j]? = some f := ⟨_, List.getElem?_eq_getElem (by have h7 := hbc.2.1; have h8 := (List.getElem?_eq_some_iff.1 hqA.out).1; (try simp only at h7); (try simp only at h8); omega)⟩
                  exact (hbc.2.2 j _ f hqA.out hf).2.2.lt g9 rfl
                have hgl : W1.heap.size ≤ g9 := by
                  obtain ⟨x, hx⟩ : ∃ x, s.fibers[k]? = some x := ⟨_, List.getElem?_eq_getElem hkA.out⟩
                  have hbc := hO2.out.bc.2 k _ x hzA.out hx
                  obtain ⟨f, hf⟩ : ∃ f, x.frames[j]? = some f := ⟨_, List.getElem?_eq_getElem (by have h7 := hbc.2.1; have h8 := (List.getElem?_eq_some_iff.1 hqA.out).1; (try simp only at h7); (try simp only at h8); omega)⟩
                  exact (hbc.2.2 j _ f hqA.out hf).2.2.2 g9 rfl
                refine ⟨n + 1, by go_num, by omega, pokeQ g9 n ⟨_, _⟩ ros1 Z2 s1, ros1, hAl.trans (Alike.poke hAl.sm hAl.bd ?_), hSO.poke (k := n) (x := ⟨_, _⟩) hcuA.out, (hCT.trans (chg_set _ _ _ _) (fun b _ e => ?_)).trans (chg_set _ _ _ _) (fun b _ e => ?_)⟩
                · simp only
                  omega
                · rw [e]; exact ⟨hgl, hg9⟩
                · rw [e]; exact ⟨hgl, hg9⟩
            · obtain rfl : n = xN := by omega
              go_wp2
              go_roundw
              case measure => first | (simp [intOf]; done) | (simp [intOf]; omega)
              case rel => exact ⟨j + 1, by go_num, by omega, s1, ros1, hAl, hSO, hCT⟩
        · obtain rfl : j = fN := by omega
          go_wp2
          go_roundw
          case measure => first | (simp [intOf]; done) | (simp [intOf]; omega)
          case rel => exact ⟨k + 1, by go_num, by omega, s1, ros1, hAl, hSO, hCT⟩
    · obtain rfl : k = s.fibers.length := by omega
      clear hk hlt
      go_wp2
      clear x2
      go_loopw [14] (fun i wr => MRelN s.objs.length w7 W1.heap.size w2.heap.size (A1, s.texts.length, c1) (A2, s.objs.length, c2) (A3, s.fibers.length, c3) s Z2 i wr) (fun i _ => s.objs.length - (intOf i).toNat)
      case atStart => exact ⟨0, rfl, by omega, s1, ros1, hAl, hSO, hCT⟩
      case round =>
        clear hAl hSO hCT
        obtain ⟨k, rfl, hk, s1, ros1, hAl, hSO, hCT⟩ := hrel
        have hbi := Aside0.mk (hCT.blk hB4.out (fun h => by have := hqgi.out; omega))
        have hlo : w.heap.size + 1 < W1.heap.size := by have h8 : Chg (fun _ => False) W0 W1 := cg; have h9 := hgtW.out; have h7 := h8.size; omega
        have hbo := Aside0.mk (hCT.blk hB2.out (fun h => by omega))
        have x1 : wr.cell? ⟨gi, 1, none⟩ = some (.slice A2 s.objs.length c2) := blk_cell hbi.out 1
        have o1 : wr.cell? ⟨w.heap.size + 1, 1, none⟩ = some (.slice oA' s'.objs.length oc') := blk_cell hbo.out 1
        have hk0 : (0 : Int) ≤ k := by omega
        by_cases hlt : k < s.objs.length
        · by_cases hlt2 : k < s'.objs.length
          · have hwW : Aside0 (Chg (fun _ => False) w wr) := ⟨(cg : Chg (fun _ => False) w w7).trans hCT (fun b hb h => by omega)⟩
            have hv := hV2.out.below (w' := wr) (hwW.out.below (fun _ _ h => h))
            obtain ⟨od, r, e1, e2, y0, y1, y2, y3, y4, y5⟩ := atRO hv.os k hlt2
            subst e1
            obtain ⟨ox, hox⟩ : ∃ ox, s'.objs[k]? = some ox := ⟨_, List.getElem?_eq_getElem hlt2⟩
            have hro := Aside0.mk (hv.ro k r ox e2 hox)
            have hxl := Aside0.mk (hS2.out.oi ox (List.mem_of_getElem? hox))
            have hxi := Aside0.mk (hD2.out.it ox (List.mem_of_getElem? hox))
            have hxk := Aside0.mk (hD2.out.ky ox (List.mem_of_getElem? hox))
            obtain ⟨g9, e5⟩ := hSO.o.some (by rw [hSO.oc.1, hAl.ol]; omega)
            subst e5
            have hSOA := Aside0.mk hSO
            have hAlA := Aside0.mk hAl
            have hk1 : (k : Int) < s.objs.length := by omega
            have hk2 : (k : Int) < s'.objs.length := by omega
            have hwd : Aside0 (Chg (fun _ => False) wr wr.drew) := ⟨(Chg.refl (fun _ => False) wr).drew⟩
            have hri : Aside0 (Kd.C kQV wr.drew r.items.1 r.items.2.1 ox.items) := ⟨(hro.out.below (hwd.out.below (fun _ _ h => h))).2.2.2.2.1⟩
            have hrk : Aside0 (Kd.C (Kd.int .i64) wr.drew r.keys.1 r.keys.2.1 ox.keys) := ⟨(hro.out.below (hwd.out.below (fun _ _ h => h))).2.2.2.2.2⟩
            clear e2 hox hv hSO hAl
            go_upto_region 21 with (fail)
            (try simp only [Act.put, List.setIfInBounds_toArray, List.set_cons_zero, List.set_cons_succ])
            refine start_ (n := 11) (S := fun w' => w'.cell? ⟨gi, 1, none⟩ = some (.slice (some ⟨g9, 0, none⟩) s.objs.length c2) ∧ w'.cell? ⟨w.heap.size + 1, 1, none⟩ = some (.slice (some od) s'.objs.length oc') ∧ w'.cell? (od.add (k * 6)) = some (.int .i64 r.kind) ∧ w'.cell? ⟨(od.add (k * 6)).block, (od.add (k * 6)).off + 1, none⟩ = some (.slice r.items.1 r.items.2.1 r.items.2.2) ∧ w'.cell? ⟨(od.add (k * 6)).block, (od.add (k * 6)).off + 2, none⟩ = some (.slice r.keys.1 r.keys.2.1 r.keys.2.2) ∧ w'.cell? ⟨(od.add (k * 6)).block, (od.add (k * 6)).off + 3, none⟩ = some (.int .i64 r.fn) ∧ w'.cell? ⟨(od.add (k * 6)).block, (od.add (k * 6)).off + 4, none⟩ = some (.int .i64 r.cap) ∧ w'.cell? ⟨(od.add (k * 6)).block, (od.add (k * 6)).off + 5, none⟩ = some (.bool r.shut)) (ds := [10]) #[false, false, false, false, false, false, false, false, false, false, false] (by kernel_rfl) rfl rfl ⟨x1, o1, y0, y1, y2, y3, y4, y5⟩ (fun hHeld => ?_)
            refine pure_ (i := 0) (N := some 102) (v := ?_) (a' := ?_) #[true, false, false, false, false, false, false, false, false, false, false] rfl rfl (by kernel_rfl) (fun _ _ _ h => h) (Or.inl ⟨by rfl, ?_⟩) ?_ ?_
            rotate_left
            · intro w'
              go_simp
              with_reducible rfl
            rotate_left
            · simp only [Act.put, List.setIfInBounds_toArray, List.set_cons_zero, List.set_cons_succ, i64_w, i32_w]
              rfl
            refine pure_ (i := 2) (N := some 104) (v := ?_) (a' := ?_) #[true, false, true, false, false, false, false, false, false, false, false] rfl rfl (by kernel_rfl) (fun _ _ _ h => h) (Or.inl ⟨by rfl, ?_⟩) ?_ ?_
            rotate_left
            · intro w'
              go_simp
              with_reducible rfl
            rotate_left
            · simp only [Act.put, List.setIfInBounds_toArray, List.set_cons_zero, List.set_cons_succ, i64_w, i32_w]
              rfl
            refine pure_ (i := 3) (N := some 105) (v := ?_) (a' := ?_) #[true, false, true, true, false, false, false, false, false, false, false] rfl rfl (by kernel_rfl) (fun _ _ _ h => h) (Or.inl ⟨by rfl, ?_⟩) ?_ ?_
            rotate_left
            · intro w'
              go_simp
              with_reducible rfl
            rotate_left
            · simp only [Act.put, List.setIfInBounds_toArray, List.set_cons_zero, List.set_cons_succ, i64_w, i32_w]
              rfl
            refine pure_ (i := 5) (N := some 107) (v := ?_) (a' := ?_) #[true, false, true, true, false, true, false, false, false, false, false] rfl rfl (by kernel_rfl) (fun _ _ _ h => h) (Or.inl ⟨by rfl, ?_⟩) ?_ ?_
            rotate_left
            · intro w'
              go_simp
              with_reducible rfl
            rotate_left
            · simp only [Act.put, List.setIfInBounds_toArray, List.set_cons_zero, List.set_cons_succ, i64_w, i32_w]
              rfl
            refine take_ (i := 1) (N := some 103) (v := ?_) (a' := ?_) #[true, true, true, true, false, true, false, false, false, false, false] rfl rfl (by kernel_rfl) (fun _ _ _ h => h) (Or.inl ⟨by rfl, ?_⟩) hHeld ?_ ?_
            rotate_left
            · rintro w' ⟨s0, s1, s2, s3, s4, s5, s6, s7⟩
              go_simp
              with_reducible rfl
            rotate_left
            · simp only [Act.put, List.setIfInBounds_toArray, List.set_cons_zero, List.set_cons_succ, i64_w, i32_w]
              rfl
            refine take_ (i := 4) (N := some 106) (v := ?_) (a' := ?_) #[true, true, true, true, true, true, false, false, false, false, false] rfl rfl (by kernel_rfl) (fun _ _ _ h => h) (Or.inl ⟨by rfl, ?_⟩) hHeld ?_ ?_
            rotate_left
            · rintro w' ⟨s0, s1, s2, s3, s4, s5, s6, s7⟩
              go_simp
              with_reducible rfl
            rotate_left
            · simp only [Act.put, List.setIfInBounds_toArray, List.set_cons_zero, List.set_cons_succ, i64_w, i32_w]
              rfl
            refine pure_ (i := 6) (N := some 108) (v := ?_) (a' := ?_) #[true, true, true, true, true, true, true, false, false, false, false] rfl rfl (by kernel_rfl) (fun _ _ _ h => h) (Or.inl ⟨by rfl, ?_⟩) ?_ ?_
            rotate_left
            · intro w'
              go_simp
              with_reducible rfl
            rotate_left
            · simp only [Act.put, List.setIfInBounds_toArray, List.set_cons_zero, List.set_cons_succ, i64_w, i32_w]
              rfl
            refine take_ (i := 7) (N := some 109) (v := ?_) (a' := ?_) #[true, true, true, true, true, true, true, true, false, false, false] rfl rfl (by kernel_rfl) (fun _ _ _ h => h) (Or.inl ⟨by rfl, ?_⟩) hHeld ?_ ?_
            rotate_left
            · rintro w' ⟨s0, s1, s2, s3, s4, s5, s6, s7⟩
              go_simp
              with_reducible rfl
            rotate_left
            · simp only [Act.put, List.setIfInBounds_toArray, List.set_cons_zero, List.set_cons_succ, i64_w, i32_w]
              rfl
            refine one_ (i := 8) (N := some 110) #[true, true, true, true, true, true, true, true, true, false, false] rfl rfl (by kernel_rfl) (by decide) (fun K hK => ?_)
            refine goes_ Try.func23 (by kernel_rfl) rfl #[.agg (cellsRO r).toArray] (by rfl) rfl rfl (by simp only [List.map_toArray, List.map_cons, List.map_nil]; rfl) ?_
            with_reducible refine (ref_CopyObject wr.drew r ox.items ox.keys hri.out hrk.out hxl.out.1 hxl.out.2).mono ?_
            rintro e w8 ⟨⟨iA, iN, iC⟩, ⟨kA, kN, kC⟩, rfl, oi8, ok8, hc8⟩
            refine ⟨.agg #[.int .i64 r.kind, .slice iA iN iC, .slice kA kN kC, .int .i64 r.fn, .int .i64 r.cap, .bool r.shut], rfl, ?_⟩
            have h88 : Aside0 (Chg (fun _ => False) wr w8) := ⟨hwd.out.trans hc8 (fun _ _ h => h)⟩
            have hSO8 := Aside0.mk (hSOA.out.hit h88.out Hits.no)
            obtain ⟨ad8, q8, e8, e9, z0, z1, z2, z3, z4, z5⟩ := atRO hSO8.out.o.toC k hlt
            injection e8 with e8
            subst e8
            rw [add_plain] at z0 z1 z2 z3 z4 z5
            simp only at z0 z1 z2 z3 z4 z5
            have hq8 := Aside0.mk e9
            obtain ⟨cu, hcu⟩ := Kd.R_typed hSO8.out.o.1 g9 rfl
            have f0 := blk_frozen hcu (k * 6)
            have f1 := blk_frozen hcu (k * 6 + 1)
            have f2 := blk_frozen hcu (k * 6 + 2)
            have f3 := blk_frozen hcu (k * 6 + 3)
            have f4 := blk_frozen hcu (k * 6 + 4)
            have f5 := blk_frozen hcu (k * 6 + 5)
            clear e9 hcu
            refine hK.out _ _ ⟨(cell_chg0 x1 h88.out), (cell_chg0 o1 h88.out), (cell_chg0 y0 h88.out), (cell_chg0 y1 h88.out), (cell_chg0 y2 h88.out), (cell_chg0 y3 h88.out), (cell_chg0 y4 h88.out), (cell_chg0 y5 h88.out)⟩ (fun hHeld => ?_)
            clear hK K
            refine norm_ (a' := ?_) ?_ ?_
            rotate_left
            · show Act.put _ (some 110) _ = _
              simp only [Act.put, List.setIfInBounds_toArray, List.set_cons_zero, List.set_cons_succ, i64_w, i32_w]
              rfl
            refine pure_ (i := 9) (N := some 111) (v := ?_) (a' := ?_) #[true, true, true, true, true, true, true, true, true, true, false] rfl rfl (by kernel_rfl) (fun _ _ _ h => h) (Or.inl ⟨by rfl, ?_⟩) ?_ ?_
            rotate_left
            · intro w'
              go_simp
              with_reducible rfl
            rotate_left
            · simp only [Act.put, List.setIfInBounds_toArray, List.set_cons_zero, List.set_cons_succ, i64_w, i32_w]
              rfl
            refine last_ (i := 10) (N := none) #[true, true, true, true, true, true, true, true, true, true, true] rfl rfl (by kernel_rfl) (by decide) (fun K hK => ?_)
            refine skip_ (w1 := ?_) (by rfl) rfl ?_ ?_
            rotate_left
            · go_simp
              rfl
            refine hK.out _ _ ?_
            clear hK K
            refine done_ (by kernel_rfl) ?_

            go_wp2
            go_roundw
            case measure => first | (simp [intOf]; done) | (simp [intOf]; omega)
            case rel =>
              obtain ⟨x0, hx0⟩ : ∃ x0, s1.objs[k]? = some x0 := ⟨_, List.getElem?_eq_getElem (by rw [hAlA.out.ol]; exact hlt)⟩
              have hlo8 : W1.heap.size ≤ wr.drew.heap.size := by have h7 : Chg (fun _ => False) W1 w7 := cg; have h8 := h7.size; have h9 := hCT.size; show W1.heap.size ≤ wr.heap.size; omega
              have hput := SOwn.putRO ⟨r.kind, (iA, iN, iC), (kA, kN, kC), r.fn, r.cap, r.shut⟩ ox hSO8.out hq8.out hx0 hro.out.1 hro.out.2.1 hro.out.2.2.1 hro.out.2.2.2.1 (oi8.mono hlo8) (ok8.mono hlo8)
              have hg9 : g9 < w2.heap.size := hO2.out.o.lt g9 rfl
              have hgl : W1.heap.size ≤ g9 := hO2.out.o.2 g9 rfl
              refine ⟨k + 1, by go_num, by omega, _, _, hAlA.out.trans (Alike.putRO hAlA.out.sm hAlA.out.bd hxl.out hxi.out hxk.out), hput, (hCT.trans h88.out (fun _ _ h => h.elim)).trans (T := fun j => j = g9) (((((((Chg.refl (fun j => j = g9) w8).setCell (p := ⟨g9, k * 6 + 0, none⟩) (fun _ => rfl) _).setCell (p := ⟨g9, k * 6 + 1, none⟩) (fun _ => rfl) _).setCell (p := ⟨g9, k * 6 + 2, none⟩) (fun _ => rfl) _).setCell (p := ⟨g9, k * 6 + 3, none⟩) (fun _ => rfl) _).setCell (p := ⟨g9, k * 6 + 4, none⟩) (fun _ => rfl) _).setCell (p := ⟨g9, k * 6 + 5, none⟩) (fun _ => rfl) _) (fun b _ e => by rw [e]; exact ⟨hgl, hg9⟩)⟩
          · have hk1 : (k : Int) < s.objs.length := by omega
            have hk2 : ¬ ((k : Int) < s'.objs.length) := by omega
            go_upto_region 22 with (fail)
            (try simp only [Act.put, List.setIfInBounds_toArray, List.set_cons_zero, List.set_cons_succ])
            have hwW : Aside0 (Chg (fun _ => False) w wr) := ⟨(cg : Chg (fun _ => False) w w7).trans hCT (fun b hb h => by omega)⟩
            have hwW1 : Aside0 (Chg (fun _ => False) w1 wr) := ⟨(cg : Chg (fun _ => False) w1 w7).trans hCT (fun b hb h => by have h7 := hqgw.out; have h8 := hgwl.out; omega)⟩
            have hVr := Aside0.mk (hV.out.below (hwW.out.below (fun _ _ h => h)))
            have hWr := Aside0.mk (hWv.out.below (hwW1.out.below (fun _ _ h => h)))
            have hs22 : w2.heap.size ≤ W2.heap.size := hzgi.out.size
            have hs23 : w2.heap.size ≤ w3.heap.size := Nat.le_trans hs22 hc3.out.size
            have hAo := (hO3.out.hit (cg : Chg (fun _ => False) w3 w7) Hits.no).hit hCT (Hits.old (fun b hb => by omega))
            have hAr := Aside0.mk hAo.view
            simp only at hAr
            have bia : Aside0 (w7.heap[ga]? = some (.cells #[.slice Q1 (CanonQ s).texts.length Qc1, .slice Q2 (CanonQ s).objs.length Qc2, .slice Q3 (CanonQ s).fibers.length Qc3, .int .i64 s.cur, .int .i64 s.steps, .int .i64 s.spent, .int .i64 s.read] 40)) := ⟨bk⟩
            have biw : Aside0 (w7.heap[gw]? = some (.cells #[.slice P1 (CanonQ s).texts.length Pc1, .slice P2 (CanonQ s).objs.length Pc2, .slice P3 (CanonQ s).fibers.length Pc3, .int .i64 s.cur, .int .i64 s.steps, .int .i64 s.spent, .int .i64 s.read] 40)) := ⟨bk⟩
            have bis : Aside0 (w7.heap[w.heap.size]? = some (.cells #[.slice tA s.texts.length tc, .slice oA s.objs.length oc, .slice bA s.fibers.length bc, .int .i64 s.cur, .int .i64 s.steps, .int .i64 s.spent, .int .i64 s.read] 40)) := ⟨bk⟩
            have rba := Aside0.mk (hCT.blk bia.out (fun h => by have := hqga.out; omega))
            have rbw := Aside0.mk (hCT.blk biw.out (fun h => by have h7 := hqgw.out; have h8 := hgwl.out; omega))
            have rbs' := Aside0.mk (hCT.blk bis.out (fun h => by omega))
            have hIv1 := Aside0.mk hSO.view
            simp only at hIv1
            have hsm := Aside0.mk hAl.sm
            have hbd := Aside0.mk hAl.bd
            have rbi : Aside0 (wr.heap[gi]? = some (.cells #[.slice A1 s1.texts.length c1, .slice A2 s1.objs.length c2, .slice A3 s1.fibers.length c3, .int .i64 s1.cur, .int .i64 s1.steps, .int .i64 s1.spent, .int .i64 s1.read] 40)) := ⟨by rw [hAl.tx, hAl.ol, hAl.fl, hAl.c, hAl.st, hAl.sp, hAl.rd]; exact hbi.out⟩
            clear hAo hAl hSO hCT hbi hbo bia biw bis x1 o1 hO7 hB4 hB2 B1 B2 B3 B4 B5 B6 hO3 hO4 hO2 hR2 hM2 hml hAv hBv hIv hWv hV hO1 hc5 hc6 hc7
            have i0 : wr.cell? ⟨gi, 0, none⟩ = some (.slice A1 s1.texts.length c1) := blk_cell rbi.out 0
            have i1 : wr.cell? ⟨gi, 1, none⟩ = some (.slice A2 s1.objs.length c2) := blk_cell rbi.out 1
            have i2 : wr.cell? ⟨gi, 2, none⟩ = some (.slice A3 s1.fibers.length c3) := blk_cell rbi.out 2
            have i3 : wr.cell? ⟨gi, 3, none⟩ = some (.int .i64 s1.cur) := blk_cell rbi.out 3
            have i4 : wr.cell? ⟨gi, 4, none⟩ = some (.int .i64 s1.steps) := blk_cell rbi.out 4
            have i5 : wr.cell? ⟨gi, 5, none⟩ = some (.int .i64 s1.spent) := blk_cell rbi.out 5
            have i6 : wr.cell? ⟨gi, 6, none⟩ = some (.int .i64 s1.read) := blk_cell rbi.out 6
            go_upto_region 23 with (first | (go_at_call 24; go_must (refine (ref_CopyState _ A1 A2 A3 c1 c2 c3 s1 ros1 (Z2.map (·.1)) (Z2.map (·.2)) (hIv1.out.below bl) hsm.out).mono ?_); go_must (rintro e w8 ⟨⟨D1, Dn1, Dc1⟩, ⟨D2, Dn2, Dc2⟩, ⟨D3, Dn3, Dc3⟩, Dro, DZ, rfl, hO8, hc8⟩); go_must (simp only [svl]); go_must (obtain rfl : Dn1 = s1.texts.length := (hO8.t.len).1); go_must (obtain rfl : Dn2 = s1.objs.length := (hO8.o.len).1.trans hO8.oc.1); go_must (obtain rfl : Dn3 = s1.fibers.length := (hO8.b.len).1.trans (by rw [List.length_map]; exact hO8.bc.1)); go_must (replace hc8 := Aside0.mk hc8); go_must (have hDv := Aside0.mk hO8.view); go_must (simp only at hDv)) | (go_at_call 20; go_must (refine (ref_Canon _ D1 D2 D3 Dc1 Dc2 Dc3 s1 Dro (DZ.map (·.1)) (DZ.map (·.2)) (hDv.out.below bl) hsm.out hbd.out).mono ?_); go_must (rintro e w9 ⟨⟨N1, Nn1, Nc1⟩, ⟨N2, Nn2, Nc2⟩, ⟨N3, Nn3, Nc3⟩, Nro, NZ, rfl, hO9, hc9⟩); go_must (simp only [svl]); go_must (obtain rfl : Nn1 = (CanonQ s1).texts.length := (hO9.t.len).1); go_must (obtain rfl : Nn2 = (CanonQ s1).objs.length := (hO9.o.len).1.trans hO9.oc.1); go_must (obtain rfl : Nn3 = (CanonQ s1).fibers.length := (hO9.b.len).1.trans (by rw [List.length_map]; exact hO9.bc.1)); go_must (replace hc9 := Aside0.mk hc9); go_must (replace hO9 := Aside0.mk hO9)))
            (try simp only [Act.put, List.setIfInBounds_toArray, List.set_cons_zero, List.set_cons_succ])
            generalize hW : World.alloc w9 _ = W9
            obtain ⟨gn, hgn⟩ : ∃ g, g = w9.heap.size := ⟨_, rfl⟩
            rw [← hgn]
            have b9 : Aside0 (W9.heap[gn]? = some (.cells #[.slice N1 (CanonQ s1).texts.length Nc1, .slice N2 (CanonQ s1).objs.length Nc2, .slice N3 (CanonQ s1).fibers.length Nc3, .int .i64 s1.cur, .int .i64 s1.steps, .int .i64 s1.spent, .int .i64 s1.read] 40)) := ⟨by rw [hgn, ← hW]; exact heap_alloc_new w9 _⟩
            have hzgn : Aside0 (Chg (fun _ => False) w9 W9) := ⟨by rw [← hW]; exact cg⟩
            have hqgn := Aside0.mk hgn
            clear hW hgn
            have rbi9 : Aside0 (W9.heap[gi]? = some (.cells #[.slice A1 s1.texts.length c1, .slice A2 s1.objs.length c2, .slice A3 s1.fibers.length c3, .int .i64 s1.cur, .int .i64 s1.steps, .int .i64 s1.spent, .int .i64 s1.read] 40)) := ⟨bk⟩
            have hNv := Aside0.mk hO9.out.view
            simp only at hNv
            clear i0 i1 i2 i3 i4 i5 i6
            have i0 : W9.cell? ⟨gi, 0, none⟩ = some (.slice A1 s1.texts.length c1) := blk_cell rbi9.out 0
            have i1 : W9.cell? ⟨gi, 1, none⟩ = some (.slice A2 s1.objs.length c2) := blk_cell rbi9.out 1
            have i2 : W9.cell? ⟨gi, 2, none⟩ = some (.slice A3 s1.fibers.length c3) := blk_cell rbi9.out 2
            have i3 : W9.cell? ⟨gi, 3, none⟩ = some (.int .i64 s1.cur) := blk_cell rbi9.out 3
            have i4 : W9.cell? ⟨gi, 4, none⟩ = some (.int .i64 s1.steps) := blk_cell rbi9.out 4
            have i5 : W9.cell? ⟨gi, 5, none⟩ = some (.int .i64 s1.spent) := blk_cell rbi9.out 5
            have i6 : W9.cell? ⟨gi, 6, none⟩ = some (.int .i64 s1.read) := blk_cell rbi9.out 6
            go_upto_region 24 with ((go_at_call 21; go_must (refine (st_Canon _ A1 A2 A3 c1 c2 c3 s1 ros1 (Z2.map (·.1)) (Z2.map (·.2)) (hIv1.out.below bl) hsm.out hbd.out).mono ?_); go_must (rintro e w10 ⟨⟨M1, Mn1, Mc1⟩, ⟨M2, Mn2, Mc2⟩, ⟨M3, Mn3, Mc3⟩, Mro, MZ, rfl, hO10, hc10⟩); go_must (simp only [svl]); go_must (obtain rfl : Mn1 = (CanonQ s1).texts.length := (hO10.t.len).1); go_must (obtain rfl : Mn2 = (CanonQ s1).objs.length := (hO10.o.len).1.trans hO10.oc.1); go_must (obtain rfl : Mn3 = (CanonQ s1).fibers.length := (hO10.b.len).1.trans (by rw [List.length_map]; exact hO10.bc.1)); go_must (replace hc10 := Aside0.mk hc10); go_must (replace hO10 := Aside0.mk hO10)))
            (try simp only [Act.put, List.setIfInBounds_toArray, List.set_cons_zero, List.set_cons_succ])
            generalize hW : World.alloc w10 _ = W10
            obtain ⟨gc, hgc⟩ : ∃ g, g = w10.heap.size := ⟨_, rfl⟩
            rw [← hgc]
            have b10 : Aside0 (W10.heap[gc]? = some (.cells #[.slice M1 (CanonQ s1).texts.length Mc1, .slice M2 (CanonQ s1).objs.length Mc2, .slice M3 (CanonQ s1).fibers.length Mc3, .int .i64 s1.cur, .int .i64 s1.steps, .int .i64 s1.spent, .int .i64 s1.read] 40)) := ⟨by rw [hgc, ← hW]; exact heap_alloc_new w10 _⟩
            have hzgc : Aside0 (Chg (fun _ => False) w10 W10) := ⟨by rw [← hW]; exact cg⟩
            have hqgc := Aside0.mk hgc
            clear hW hgc
            have hMv := Aside0.mk hO10.out.view
            simp only at hMv
            clear i0 i1 i2 i3 i4 i5 i6
            have tbc : Aside0 (W10.heap[gc]? = some (.cells #[.slice M1 (CanonQ s1).texts.length Mc1, .slice M2 (CanonQ s1).objs.length Mc2, .slice M3 (CanonQ s1).fibers.length Mc3, .int .i64 s1.cur, .int .i64 s1.steps, .int .i64 s1.spent, .int .i64 s1.read] 40)) := ⟨bk⟩
            have bc0 : W10.cell? ⟨gc, 0, none⟩ = some (.slice M1 (CanonQ s1).texts.length Mc1) := blk_cell tbc.out 0
            have bc1 : W10.cell? ⟨gc, 1, none⟩ = some (.slice M2 (CanonQ s1).objs.length Mc2) := blk_cell tbc.out 1
            have bc2 : W10.cell? ⟨gc, 2, none⟩ = some (.slice M3 (CanonQ s1).fibers.length Mc3) := blk_cell tbc.out 2
            have bc3 : W10.cell? ⟨gc, 3, none⟩ = some (.int .i64 s1.cur) := blk_cell tbc.out 3
            have bc4 : W10.cell? ⟨gc, 4, none⟩ = some (.int .i64 s1.steps) := blk_cell tbc.out 4
            have bc5 : W10.cell? ⟨gc, 5, none⟩ = some (.int .i64 s1.spent) := blk_cell tbc.out 5
            have bc6 : W10.cell? ⟨gc, 6, none⟩ = some (.int .i64 s1.read) := blk_cell tbc.out 6
            have tbn : Aside0 (W10.heap[gn]? = some (.cells #[.slice N1 (CanonQ s1).texts.length Nc1, .slice N2 (CanonQ s1).objs.length Nc2, .slice N3 (CanonQ s1).fibers.length Nc3, .int .i64 s1.cur, .int .i64 s1.steps, .int .i64 s1.spent, .int .i64 s1.read] 40)) := ⟨bk⟩
            have bn0 : W10.cell? ⟨gn, 0, none⟩ = some (.slice N1 (CanonQ s1).texts.length Nc1) := blk_cell tbn.out 0
            have bn1 : W10.cell? ⟨gn, 1, none⟩ = some (.slice N2 (CanonQ s1).objs.length Nc2) := blk_cell tbn.out 1
            have bn2 : W10.cell? ⟨gn, 2, none⟩ = some (.slice N3 (CanonQ s1).fibers.length Nc3) := blk_cell tbn.out 2
            have bn3 : W10.cell? ⟨gn, 3, none⟩ = some (.int .i64 s1.cur) := blk_cell tbn.out 3
            have bn4 : W10.cell? ⟨gn, 4, none⟩ = some (.int .i64 s1.steps) := blk_cell tbn.out 4
            have bn5 : W10.cell? ⟨gn, 5, none⟩ = some (.int .i64 s1.spent) := blk_cell tbn.out 5
            have bn6 : W10.cell? ⟨gn, 6, none⟩ = some (.int .i64 s1.read) := blk_cell tbn.out 6
            have tba : Aside0 (W10.heap[ga]? = some (.cells #[.slice Q1 (CanonQ s).texts.length Qc1, .slice Q2 (CanonQ s).objs.length Qc2, .slice Q3 (CanonQ s).fibers.length Qc3, .int .i64 s.cur, .int .i64 s.steps, .int .i64 s.spent, .int .i64 s.read] 40)) := ⟨bk⟩
            have ba0 : W10.cell? ⟨ga, 0, none⟩ = some (.slice Q1 (CanonQ s).texts.length Qc1) := blk_cell tba.out 0
            have ba1 : W10.cell? ⟨ga, 1, none⟩ = some (.slice Q2 (CanonQ s).objs.length Qc2) := blk_cell tba.out 1
            have ba2 : W10.cell? ⟨ga, 2, none⟩ = some (.slice Q3 (CanonQ s).fibers.length Qc3) := blk_cell tba.out 2
            have ba3 : W10.cell? ⟨ga, 3, none⟩ = some (.int .i64 s.cur) := blk_cell tba.out 3
            have ba4 : W10.cell? ⟨ga, 4, none⟩ = some (.int .i64 s.steps) := blk_cell tba.out 4
            have ba5 : W10.cell? ⟨ga, 5, none⟩ = some (.int .i64 s.spent) := blk_cell tba.out 5
            have ba6 : W10.cell? ⟨ga, 6, none⟩ = some (.int .i64 s.read) := blk_cell tba.out 6
            have tbw : Aside0 (W10.heap[gw]? = some (.cells #[.slice P1 (CanonQ s).texts.length Pc1, .slice P2 (CanonQ s).objs.length Pc2, .slice P3 (CanonQ s).fibers.length Pc3, .int .i64 s.cur, .int .i64 s.steps, .int .i64 s.spent, .int .i64 s.read] 40)) := ⟨bk⟩
            have bw0 : W10.cell? ⟨gw, 0, none⟩ = some (.slice P1 (CanonQ s).texts.length Pc1) := blk_cell tbw.out 0
            have bw1 : W10.cell? ⟨gw, 1, none⟩ = some (.slice P2 (CanonQ s).objs.length Pc2) := blk_cell tbw.out 1
            have bw2 : W10.cell? ⟨gw, 2, none⟩ = some (.slice P3 (CanonQ s).fibers.length Pc3) := blk_cell tbw.out 2
            have bw3 : W10.cell? ⟨gw, 3, none⟩ = some (.int .i64 s.cur) := blk_cell tbw.out 3
            have bw4 : W10.cell? ⟨gw, 4, none⟩ = some (.int .i64 s.steps) := blk_cell tbw.out 4
            have bw5 : W10.cell? ⟨gw, 5, none⟩ = some (.int .i64 s.spent) := blk_cell tbw.out 5
            have bw6 : W10.cell? ⟨gw, 6, none⟩ = some (.int .i64 s.read) := blk_cell tbw.out 6
            have tbs : Aside0 (W10.heap[w.heap.size]? = some (.cells #[.slice tA s.texts.length tc, .slice oA s.objs.length oc, .slice bA s.fibers.length bc, .int .i64 s.cur, .int .i64 s.steps, .int .i64 s.spent, .int .i64 s.read] 40)) := ⟨bk⟩
            have bs0 : W10.cell? ⟨w.heap.size, 0, none⟩ = some (.slice tA s.texts.length tc) := blk_cell tbs.out 0
            have bs1 : W10.cell? ⟨w.heap.size, 1, none⟩ = some (.slice oA s.objs.length oc) := blk_cell tbs.out 1
            have bs2 : W10.cell? ⟨w.heap.size, 2, none⟩ = some (.slice bA s.fibers.length bc) := blk_cell tbs.out 2
            have bs3 : W10.cell? ⟨w.heap.size, 3, none⟩ = some (.int .i64 s.cur) := blk_cell tbs.out 3
            have bs4 : W10.cell? ⟨w.heap.size, 4, none⟩ = some (.int .i64 s.steps) := blk_cell tbs.out 4
            have bs5 : W10.cell? ⟨w.heap.size, 5, none⟩ = some (.int .i64 s.spent) := blk_cell tbs.out 5
            have bs6 : W10.cell? ⟨w.heap.size, 6, none⟩ = some (.int .i64 s.read) := blk_cell tbs.out 6
            have hwdd : Aside0 (Chg (fun _ => False) W10 W10.drew) := ⟨(Chg.refl (fun _ => False) W10).drew⟩
            refine start_ (n := 15) (S := fun w' => w'.cell? ⟨gc, 0, none⟩ = some (.slice M1 (CanonQ s1).texts.length Mc1) ∧ w'.cell? ⟨gc, 1, none⟩ = some (.slice M2 (CanonQ s1).objs.length Mc2) ∧ w'.cell? ⟨gc, 2, none⟩ = some (.slice M3 (CanonQ s1).fibers.length Mc3) ∧ w'.cell? ⟨gc, 3, none⟩ = some (.int .i64 s1.cur) ∧ w'.cell? ⟨gc, 4, none⟩ = some (.int .i64 s1.steps) ∧ w'.cell? ⟨gc, 5, none⟩ = some (.int .i64 s1.spent) ∧ w'.cell? ⟨gc, 6, none⟩ = some (.int .i64 s1.read) ∧ w'.cell? ⟨gn, 0, none⟩ = some (.slice N1 (CanonQ s1).texts.length Nc1) ∧ w'.cell? ⟨gn, 1, none⟩ = some (.slice N2 (CanonQ s1).objs.length Nc2) ∧ w'.cell? ⟨gn, 2, none⟩ = some (.slice N3 (CanonQ s1).fibers.length Nc3) ∧ w'.cell? ⟨gn, 3, none⟩ = some (.int .i64 s1.cur) ∧ w'.cell? ⟨gn, 4, none⟩ = some (.int .i64 s1.steps) ∧ w'.cell? ⟨gn, 5, none⟩ = some (.int .i64 s1.spent) ∧ w'.cell? ⟨gn, 6, none⟩ = some (.int .i64 s1.read) ∧ w'.cell? ⟨ga, 0, none⟩ = some (.slice Q1 (CanonQ s).texts.length Qc1) ∧ w'.cell? ⟨ga, 1, none⟩ = some (.slice Q2 (CanonQ s).objs.length Qc2) ∧ w'.cell? ⟨ga, 2, none⟩ = some (.slice Q3 (CanonQ s).fibers.length Qc3) ∧ w'.cell? ⟨ga, 3, none⟩ = some (.int .i64 s.cur) ∧ w'.cell? ⟨ga, 4, none⟩ = some (.int .i64 s.steps) ∧ w'.cell? ⟨ga, 5, none⟩ = some (.int .i64 s.spent) ∧ w'.cell? ⟨ga, 6, none⟩ = some (.int .i64 s.read) ∧ w'.cell? ⟨gw, 0, none⟩ = some (.slice P1 (CanonQ s).texts.length Pc1) ∧ w'.cell? ⟨gw, 1, none⟩ = some (.slice P2 (CanonQ s).objs.length Pc2) ∧ w'.cell? ⟨gw, 2, none⟩ = some (.slice P3 (CanonQ s).fibers.length Pc3) ∧ w'.cell? ⟨gw, 3, none⟩ = some (.int .i64 s.cur) ∧ w'.cell? ⟨gw, 4, none⟩ = some (.int .i64 s.steps) ∧ w'.cell? ⟨gw, 5, none⟩ = some (.int .i64 s.spent) ∧ w'.cell? ⟨gw, 6, none⟩ = some (.int .i64 s.read) ∧ w'.cell? ⟨w.heap.size, 0, none⟩ = some (.slice tA s.texts.length tc) ∧ w'.cell? ⟨w.heap.size, 1, none⟩ = some (.slice oA s.objs.length oc) ∧ w'.cell? ⟨w.heap.size, 2, none⟩ = some (.slice bA s.fibers.length bc) ∧ w'.cell? ⟨w.heap.size, 3, none⟩ = some (.int .i64 s.cur) ∧ w'.cell? ⟨w.heap.size, 4, none⟩ = some (.int .i64 s.steps) ∧ w'.cell? ⟨w.heap.size, 5, none⟩ = some (.int .i64 s.spent) ∧ w'.cell? ⟨w.heap.size, 6, none⟩ = some (.int .i64 s.read)) (ds := []) #[false, false, false, false, false, false, false, false, false, false, false, false, false, false, false] (by kernel_rfl) rfl rfl ⟨bc0, bc1, bc2, bc3, bc4, bc5, bc6, bn0, bn1, bn2, bn3, bn4, bn5, bn6, ba0, ba1, ba2, ba3, ba4, ba5, ba6, bw0, bw1, bw2, bw3, bw4, bw5, bw6, bs0, bs1, bs2, bs3, bs4, bs5, bs6⟩ (fun hHeld => ?_)
            refine take_ (i := 0) (N := some 117) (v := ?_) (a' := ?_) #[true, false, false, false, false, false, false, false, false, false, false, false, false, false, false] rfl rfl (by kernel_rfl) (fun _ _ _ h => h) (Or.inl ⟨by rfl, ?_⟩) hHeld ?_ ?_
            rotate_left
            · rintro w' ⟨s0, s1, s2, s3, s4, s5, s6, s7, s8, s9, s10, s11, s12, s13, s14, s15, s16, s17, s18, s19, s20, s21, s22, s23, s24, s25, s26, s27, s28, s29, s30, s31, s32, s33, s34⟩
              go_simp
              with_reducible rfl
            rotate_left
            · simp only [Act.put, List.setIfInBounds_toArray, List.set_cons_zero, List.set_cons_succ, i64_w, i32_w]
              rfl
            refine take_ (i := 1) (N := some 118) (v := ?_) (a' := ?_) #[true, true, false, false, false, false, false, false, false, false, false, false, false, false, false] rfl rfl (by kernel_rfl) (fun _ _ _ h => h) (Or.inl ⟨by rfl, ?_⟩) hHeld ?_ ?_
            rotate_left
            · rintro w' ⟨s0, s1, s2, s3, s4, s5, s6, s7, s8, s9, s10, s11, s12, s13, s14, s15, s16, s17, s18, s19, s20, s21, s22, s23, s24, s25, s26, s27, s28, s29, s30, s31, s32, s33, s34⟩
              go_simp
              with_reducible rfl
            rotate_left
            · simp only [Act.put, List.setIfInBounds_toArray, List.set_cons_zero, List.set_cons_succ, i64_w, i32_w]
              rfl
            refine one_ (i := 2) (N := some 119) #[true, true, true, false, false, false, false, false, false, false, false, false, false, false, false] rfl rfl (by kernel_rfl) (by decide) (fun K hK => ?_)
            refine goes_ Try.func22 (by kernel_rfl) rfl #[.agg #[.slice M1 (CanonQ s1).texts.length Mc1, .slice M2 (CanonQ s1).objs.length Mc2, .slice M3 (CanonQ s1).fibers.length Mc3, .int .i64 s1.cur, .int .i64 s1.steps, .int .i64 s1.spent, .int .i64 s1.read], .agg #[.slice N1 (CanonQ s1).texts.length Nc1, .slice N2 (CanonQ s1).objs.length Nc2, .slice N3 (CanonQ s1).fibers.length Nc3, .int .i64 s1.cur, .int .i64 s1.steps, .int .i64 s1.spent, .int .i64 s1.read]] (by rfl) rfl rfl (by simp only [List.map_toArray, List.map_cons, List.map_nil]; rfl) ?_
            with_reducible refine (told_yes (same_StateD W10.drew M1 M2 M3 N1 N2 N3 Mc1 Mc2 Mc3 Nc1 Nc2 Nc3 s1 s1 Mro Nro (MZ.map (·.1)) (NZ.map (·.1)) (MZ.map (·.2)) (NZ.map (·.2)) (hMv.out.below bl) (hNv.out.below bl)) rfl).mono ?_
            rintro e w11 ⟨rfl, hc11⟩
            refine ⟨_, rfl, ?_⟩
            replace hc11 := Aside0.mk hc11
            have k11 : Aside0 (Chg (fun _ => False) W10 w11) := ⟨hwdd.out.trans hc11.out (fun _ _ h => h)⟩
            refine hK.out _ _ ⟨(cell_chg0 bc0 k11.out), (cell_chg0 bc1 k11.out), (cell_chg0 bc2 k11.out), (cell_chg0 bc3 k11.out), (cell_chg0 bc4 k11.out), (cell_chg0 bc5 k11.out), (cell_chg0 bc6 k11.out), (cell_chg0 bn0 k11.out), (cell_chg0 bn1 k11.out), (cell_chg0 bn2 k11.out), (cell_chg0 bn3 k11.out), (cell_chg0 bn4 k11.out), (cell_chg0 bn5 k11.out), (cell_chg0 bn6 k11.out), (cell_chg0 ba0 k11.out), (cell_chg0 ba1 k11.out), (cell_chg0 ba2 k11.out), (cell_chg0 ba3 k11.out), (cell_chg0 ba4 k11.out), (cell_chg0 ba5 k11.out), (cell_chg0 ba6 k11.out), (cell_chg0 bw0 k11.out), (cell_chg0 bw1 k11.out), (cell_chg0 bw2 k11.out), (cell_chg0 bw3 k11.out), (cell_chg0 bw4 k11.out), (cell_chg0 bw5 k11.out), (cell_chg0 bw6 k11.out), (cell_chg0 bs0 k11.out), (cell_chg0 bs1 k11.out), (cell_chg0 bs2 k11.out), (cell_chg0 bs3 k11.out), (cell_chg0 bs4 k11.out), (cell_chg0 bs5 k11.out), (cell_chg0 bs6 k11.out)⟩ (fun hHeld => ?_)
            clear hK K
            refine norm_ (a' := ?_) ?_ ?_
            rotate_left
            · show Act.put _ (some 119) _ = _
              simp only [Act.put, List.setIfInBounds_toArray, List.set_cons_zero, List.set_cons_succ, i64_w, i32_w]
              rfl
            refine pure_ (i := 3) (N := some 120) (v := ?_) (a' := ?_) #[true, true, true, true, false, false, false, false, false, false, false, false, false, false, false] rfl rfl (by kernel_rfl) (fun _ _ _ h => h) (Or.inl ⟨by rfl, ?_⟩) ?_ ?_
            rotate_left
            · intro w'
              go_simp
              with_reducible rfl
            rotate_left
            · simp only [Act.put, List.setIfInBounds_toArray, List.set_cons_zero, List.set_cons_succ, i64_w, i32_w]
              rfl
            refine take_ (i := 4) (N := some 121) (v := ?_) (a' := ?_) #[true, true, true, true, true, false, false, false, false, false, false, false, false, false, false] rfl rfl (by kernel_rfl) (fun _ _ _ h => h) (Or.inl ⟨by rfl, ?_⟩) hHeld ?_ ?_
            rotate_left
            · rintro w' ⟨s0, s1, s2, s3, s4, s5, s6, s7, s8, s9, s10, s11, s12, s13, s14, s15, s16, s17, s18, s19, s20, s21, s22, s23, s24, s25, s26, s27, s28, s29, s30, s31, s32, s33, s34⟩
              go_simp
              with_reducible rfl
            rotate_left
            · simp only [Act.put, List.setIfInBounds_toArray, List.set_cons_zero, List.set_cons_succ, i64_w, i32_w]
              rfl
            refine take_ (i := 5) (N := some 122) (v := ?_) (a' := ?_) #[true, true, true, true, true, true, false, false, false, false, false, false, false, false, false] rfl rfl (by kernel_rfl) (fun _ _ _ h => h) (Or.inl ⟨by rfl, ?_⟩) hHeld ?_ ?_
            rotate_left
            · rintro w' ⟨s0, s1, s2, s3, s4, s5, s6, s7, s8, s9, s10, s11, s12, s13, s14, s15, s16, s17, s18, s19, s20, s21, s22, s23, s24, s25, s26, s27, s28, s29, s30, s31, s32, s33, s34⟩
              go_simp
              with_reducible rfl
            rotate_left
            · simp only [Act.put, List.setIfInBounds_toArray, List.set_cons_zero, List.set_cons_succ, i64_w, i32_w]
              rfl
            refine one_ (i := 6) (N := some 123) #[true, true, true, true, true, true, true, false, false, false, false, false, false, false, false] rfl rfl (by kernel_rfl) (by decide) (fun K hK => ?_)
            refine goes_ Try.func22 (by kernel_rfl) rfl #[.agg #[.slice Q1 (CanonQ s).texts.length Qc1, .slice Q2 (CanonQ s).objs.length Qc2, .slice Q3 (CanonQ s).fibers.length Qc3, .int .i64 s.cur, .int .i64 s.steps, .int .i64 s.spent, .int .i64 s.read], .agg #[.slice P1 (CanonQ s).texts.length Pc1, .slice P2 (CanonQ s).objs.length Pc2, .slice P3 (CanonQ s).fibers.length Pc3, .int .i64 s.cur, .int .i64 s.steps, .int .i64 s.spent, .int .i64 s.read]] (by rfl) rfl rfl (by simp only [List.map_toArray, List.map_cons, List.map_nil]; rfl) ?_
            with_reducible refine (told_yes (same_StateD w11 Q1 Q2 Q3 P1 P2 P3 Qc1 Qc2 Qc3 Pc1 Pc2 Pc3 s s Qro Pro (QZ.map (·.1)) (PZ.map (·.1)) (QZ.map (·.2)) (PZ.map (·.2)) (hAr.out.below bl) (hWr.out.below bl)) rfl).mono ?_
            rintro e w12 ⟨rfl, hc12⟩
            refine ⟨_, rfl, ?_⟩
            replace hc12 := Aside0.mk hc12
            have k12 := Aside0.mk (k11.out.trans hc12.out (fun _ _ h => h))
            refine hK.out _ _ ⟨(cell_chg0 bc0 k12.out), (cell_chg0 bc1 k12.out), (cell_chg0 bc2 k12.out), (cell_chg0 bc3 k12.out), (cell_chg0 bc4 k12.out), (cell_chg0 bc5 k12.out), (cell_chg0 bc6 k12.out), (cell_chg0 bn0 k12.out), (cell_chg0 bn1 k12.out), (cell_chg0 bn2 k12.out), (cell_chg0 bn3 k12.out), (cell_chg0 bn4 k12.out), (cell_chg0 bn5 k12.out), (cell_chg0 bn6 k12.out), (cell_chg0 ba0 k12.out), (cell_chg0 ba1 k12.out), (cell_chg0 ba2 k12.out), (cell_chg0 ba3 k12.out), (cell_chg0 ba4 k12.out), (cell_chg0 ba5 k12.out), (cell_chg0 ba6 k12.out), (cell_chg0 bw0 k12.out), (cell_chg0 bw1 k12.out), (cell_chg0 bw2 k12.out), (cell_chg0 bw3 k12.out), (cell_chg0 bw4 k12.out), (cell_chg0 bw5 k12.out), (cell_chg0 bw6 k12.out), (cell_chg0 bs0 k12.out), (cell_chg0 bs1 k12.out), (cell_chg0 bs2 k12.out), (cell_chg0 bs3 k12.out), (cell_chg0 bs4 k12.out), (cell_chg0 bs5 k12.out), (cell_chg0 bs6 k12.out)⟩ (fun hHeld => ?_)
            clear hK K
            refine norm_ (a' := ?_) ?_ ?_
            rotate_left
            · show Act.put _ (some 123) _ = _
              simp only [Act.put, List.setIfInBounds_toArray, List.set_cons_zero, List.set_cons_succ, i64_w, i32_w]
              rfl
            refine pure_ (i := 7) (N := some 124) (v := ?_) (a' := ?_) #[true, true, true, true, true, true, true, true, false, false, false, false, false, false, false] rfl rfl (by kernel_rfl) (fun _ _ _ h => h) (Or.inl ⟨by rfl, ?_⟩) ?_ ?_
            rotate_left
            · intro w'
              go_simp
              with_reducible rfl
            rotate_left
            · simp only [Act.put, List.setIfInBounds_toArray, List.set_cons_zero, List.set_cons_succ, i64_w, i32_w]
              rfl
            refine pure_ (i := 8) (N := some 125) (v := ?_) (a' := ?_) #[true, true, true, true, true, true, true, true, true, false, false, false, false, false, false] rfl rfl (by kernel_rfl) (fun _ _ _ h => h) (Or.inl ⟨by rfl, ?_⟩) ?_ ?_
            rotate_left
            · intro w'
              go_simp
              with_reducible rfl
            rotate_left
            · simp only [Act.put, List.setIfInBounds_toArray, List.set_cons_zero, List.set_cons_succ, i64_w, i32_w]
              rfl
            refine take_ (i := 9) (N := some 126) (v := ?_) (a' := ?_) #[true, true, true, true, true, true, true, true, true, true, false, false, false, false, false] rfl rfl (by kernel_rfl) (fun _ _ _ h => h) (Or.inl ⟨by rfl, ?_⟩) hHeld ?_ ?_
            rotate_left
            · rintro w' ⟨s0, s1, s2, s3, s4, s5, s6, s7, s8, s9, s10, s11, s12, s13, s14, s15, s16, s17, s18, s19, s20, s21, s22, s23, s24, s25, s26, s27, s28, s29, s30, s31, s32, s33, s34⟩
              go_simp
              with_reducible rfl
            rotate_left
            · simp only [Act.put, List.setIfInBounds_toArray, List.set_cons_zero, List.set_cons_succ, i64_w, i32_w]
              rfl
            refine take_ (i := 11) (N := some 128) (v := ?_) (a' := ?_) #[true, true, true, true, true, true, true, true, true, true, false, true, false, false, false] rfl rfl (by kernel_rfl) (fun _ _ _ h => h) (Or.inl ⟨by rfl, ?_⟩) hHeld ?_ ?_
            rotate_left
            · rintro w' ⟨s0, s1, s2, s3, s4, s5, s6, s7, s8, s9, s10, s11, s12, s13, s14, s15, s16, s17, s18, s19, s20, s21, s22, s23, s24, s25, s26, s27, s28, s29, s30, s31, s32, s33, s34⟩
              go_simp
              with_reducible rfl
            rotate_left
            · simp only [Act.put, List.setIfInBounds_toArray, List.set_cons_zero, List.set_cons_succ, i64_w, i32_w]
              rfl
            refine one_ (i := 10) (N := some 127) #[true, true, true, true, true, true, true, true, true, true, true, true, false, false, false] rfl rfl (by kernel_rfl) (by decide) (fun K hK => ?_)
            refine goes_ Try.func21 (by kernel_rfl) rfl #[.agg #[.slice tA s.texts.length tc, .slice oA s.objs.length oc, .slice bA s.fibers.length bc, .int .i64 s.cur, .int .i64 s.steps, .int .i64 s.spent, .int .i64 s.read]] (by rfl) rfl rfl (by simp only [List.map_toArray, List.map_cons, List.map_nil]; rfl) ?_
            with_reducible refine (st_Canon w12 tA oA bA tc oc bc s ros rbs L (hVr.out.below bl) hS.out hD.out).mono ?_
            rintro e w13 ⟨⟨T1, Tn1, Tc1⟩, ⟨T2, Tn2, Tc2⟩, ⟨T3, Tn3, Tc3⟩, Tro, TZ, rfl, hO13, hc13⟩
            obtain rfl : Tn1 = (CanonQ s).texts.length := (hO13.t.len).1
            obtain rfl : Tn2 = (CanonQ s).objs.length := (hO13.o.len).1.trans hO13.oc.1
            obtain rfl : Tn3 = (CanonQ s).fibers.length := (hO13.b.len).1.trans (by rw [List.length_map]; exact hO13.bc.1)
            refine ⟨.agg #[.slice T1 (CanonQ s).texts.length Tc1, .slice T2 (CanonQ s).objs.length Tc2, .slice T3 (CanonQ s).fibers.length Tc3, .int .i64 s.cur, .int .i64 s.steps, .int .i64 s.spent, .int .i64 s.read], rfl, ?_⟩
            replace hc13 := Aside0.mk hc13
            have hTv := Aside0.mk hO13.view
            simp only at hTv
            have k13 := Aside0.mk (k12.out.trans hc13.out (fun _ _ h => h))
            refine hK.out _ _ ⟨(cell_chg0 bc0 k13.out), (cell_chg0 bc1 k13.out), (cell_chg0 bc2 k13.out), (cell_chg0 bc3 k13.out), (cell_chg0 bc4 k13.out), (cell_chg0 bc5 k13.out), (cell_chg0 bc6 k13.out), (cell_chg0 bn0 k13.out), (cell_chg0 bn1 k13.out), (cell_chg0 bn2 k13.out), (cell_chg0 bn3 k13.out), (cell_chg0 bn4 k13.out), (cell_chg0 bn5 k13.out), (cell_chg0 bn6 k13.out), (cell_chg0 ba0 k13.out), (cell_chg0 ba1 k13.out), (cell_chg0 ba2 k13.out), (cell_chg0 ba3 k13.out), (cell_chg0 ba4 k13.out), (cell_chg0 ba5 k13.out), (cell_chg0 ba6 k13.out), (cell_chg0 bw0 k13.out), (cell_chg0 bw1 k13.out), (cell_chg0 bw2 k13.out), (cell_chg0 bw3 k13.out), (cell_chg0 bw4 k13.out), (cell_chg0 bw5 k13.out), (cell_chg0 bw6 k13.out), (cell_chg0 bs0 k13.out), (cell_chg0 bs1 k13.out), (cell_chg0 bs2 k13.out), (cell_chg0 bs3 k13.out), (cell_chg0 bs4 k13.out), (cell_chg0 bs5 k13.out), (cell_chg0 bs6 k13.out)⟩ (fun hHeld => ?_)
            clear hK K
            refine norm_ (a' := ?_) ?_ ?_
            rotate_left
            · show Act.put _ (some 127) _ = _
              simp only [Act.put, List.setIfInBounds_toArray, List.set_cons_zero, List.set_cons_succ, i64_w, i32_w]
              rfl
            refine one_ (i := 12) (N := some 129) #[true, true, true, true, true, true, true, true, true, true, true, true, true, false, false] rfl rfl (by kernel_rfl) (by decide) (fun K hK => ?_)
            refine goes_ Try.func22 (by kernel_rfl) rfl #[.agg #[.slice T1 (CanonQ s).texts.length Tc1, .slice T2 (CanonQ s).objs.length Tc2, .slice T3 (CanonQ s).fibers.length Tc3, .int .i64 s.cur, .int .i64 s.steps, .int .i64 s.spent, .int .i64 s.read], .agg #[.slice P1 (CanonQ s).texts.length Pc1, .slice P2 (CanonQ s).objs.length Pc2, .slice P3 (CanonQ s).fibers.length Pc3, .int .i64 s.cur, .int .i64 s.steps, .int .i64 s.spent, .int .i64 s.read]] (by rfl) rfl rfl (by simp only [List.map_toArray, List.map_cons, List.map_nil]; rfl) ?_
            with_reducible refine (told_yes (same_StateD w13 T1 T2 T3 P1 P2 P3 Tc1 Tc2 Tc3 Pc1 Pc2 Pc3 s s Tro Pro (TZ.map (·.1)) (PZ.map (·.1)) (TZ.map (·.2)) (PZ.map (·.2)) (hTv.out.below bl) (hWr.out.below bl)) rfl).mono ?_
            rintro e w14 ⟨rfl, hc14⟩
            refine ⟨_, rfl, ?_⟩
            replace hc14 := Aside0.mk hc14
            have k14 := Aside0.mk (k13.out.trans hc14.out (fun _ _ h => h))
            refine hK.out _ _ ⟨(cell_chg0 bc0 k14.out), (cell_chg0 bc1 k14.out), (cell_chg0 bc2 k14.out), (cell_chg0 bc3 k14.out), (cell_chg0 bc4 k14.out), (cell_chg0 bc5 k14.out), (cell_chg0 bc6 k14.out), (cell_chg0 bn0 k14.out), (cell_chg0 bn1 k14.out), (cell_chg0 bn2 k14.out), (cell_chg0 bn3 k14.out), (cell_chg0 bn4 k14.out), (cell_chg0 bn5 k14.out), (cell_chg0 bn6 k14.out), (cell_chg0 ba0 k14.out), (cell_chg0 ba1 k14.out), (cell_chg0 ba2 k14.out), (cell_chg0 ba3 k14.out), (cell_chg0 ba4 k14.out), (cell_chg0 ba5 k14.out), (cell_chg0 ba6 k14.out), (cell_chg0 bw0 k14.out), (cell_chg0 bw1 k14.out), (cell_chg0 bw2 k14.out), (cell_chg0 bw3 k14.out), (cell_chg0 bw4 k14.out), (cell_chg0 bw5 k14.out), (cell_chg0 bw6 k14.out), (cell_chg0 bs0 k14.out), (cell_chg0 bs1 k14.out), (cell_chg0 bs2 k14.out), (cell_chg0 bs3 k14.out), (cell_chg0 bs4 k14.out), (cell_chg0 bs5 k14.out), (cell_chg0 bs6 k14.out)⟩ (fun hHeld => ?_)
            clear hK K
            refine norm_ (a' := ?_) ?_ ?_
            rotate_left
            · show Act.put _ (some 129) _ = _
              simp only [Act.put, List.setIfInBounds_toArray, List.set_cons_zero, List.set_cons_succ, i64_w, i32_w]
              rfl
            refine pure_ (i := 13) (N := some 130) (v := ?_) (a' := ?_) #[true, true, true, true, true, true, true, true, true, true, true, true, true, true, false] rfl rfl (by kernel_rfl) (fun _ _ _ h => h) (Or.inl ⟨by rfl, ?_⟩) ?_ ?_
            rotate_left
            · intro w'
              go_simp
              with_reducible rfl
            rotate_left
            · simp only [Act.put, List.setIfInBounds_toArray, List.set_cons_zero, List.set_cons_succ, i64_w, i32_w]
              rfl
            refine pure_ (i := 14) (N := some 4) (v := ?_) (a' := ?_) #[true, true, true, true, true, true, true, true, true, true, true, true, true, true, true] rfl rfl (by kernel_rfl) (fun _ _ _ h => h) (Or.inl ⟨by rfl, ?_⟩) ?_ ?_
            rotate_left
            · intro w'
              go_simp
              with_reducible rfl
            rotate_left
            · simp only [Act.put, List.setIfInBounds_toArray, List.set_cons_zero, List.set_cons_succ, i64_w, i32_w]
              rfl
            refine done_ (by kernel_rfl) ?_

            go_wp2
            go_ret
            exact ⟨rfl, bl⟩
        · have hk1 : ¬ ((k : Int) < s.objs.length) := by omega
          go_upto_region 22 with (fail)
          (try simp only [Act.put, List.setIfInBounds_toArray, List.set_cons_zero, List.set_cons_succ])
          have hwW : Aside0 (Chg (fun _ => False) w wr) := ⟨(cg : Chg (fun _ => False) w w7).trans hCT (fun b hb h => by omega)⟩
          have hwW1 : Aside0 (Chg (fun _ => False) w1 wr) := ⟨(cg : Chg (fun _ => False) w1 w7).trans hCT (fun b hb h => by have h7 := hqgw.out; have h8 := hgwl.out; omega)⟩
          have hVr := Aside0.mk (hV.out.below (hwW.out.below (fun _ _ h => h)))
          have hWr := Aside0.mk (hWv.out.below (hwW1.out.below (fun _ _ h => h)))
          have hs22 : w2.heap.size ≤ W2.heap.size := hzgi.out.size
          have hs23 : w2.heap.size ≤ w3.heap.size := Nat.le_trans hs22 hc3.out.size
          have hAo := (hO3.out.hit (cg : Chg (fun _ => False) w3 w7) Hits.no).hit hCT (Hits.old (fun b hb => by omega))
          have hAr := Aside0.mk hAo.view
          simp only at hAr
          have bia : Aside0 (w7.heap[ga]? = some (.cells #[.slice Q1 (CanonQ s).texts.length Qc1, .slice Q2 (CanonQ s).objs.length Qc2, .slice Q3 (CanonQ s).fibers.length Qc3, .int .i64 s.cur, .int .i64 s.steps, .int .i64 s.spent, .int .i64 s.read] 40)) := ⟨bk⟩
          have biw : Aside0 (w7.heap[gw]? = some (.cells #[.slice P1 (CanonQ s).texts.length Pc1, .slice P2 (CanonQ s).objs.length Pc2, .slice P3 (CanonQ s).fibers.length Pc3, .int .i64 s.cur, .int .i64 s.steps, .int .i64 s.spent, .int .i64 s.read] 40)) := ⟨bk⟩
          have bis : Aside0 (w7.heap[w.heap.size]? = some (.cells #[.slice tA s.texts.length tc, .slice oA s.objs.length oc, .slice bA s.fibers.length bc, .int .i64 s.cur, .int .i64 s.steps, .int .i64 s.spent, .int .i64 s.read] 40)) := ⟨bk⟩
          have rba := Aside0.mk (hCT.blk bia.out (fun h => by have := hqga.out; omega))
          have rbw := Aside0.mk (hCT.blk biw.out (fun h => by have h7 := hqgw.out; have h8 := hgwl.out; omega))
          have rbs' := Aside0.mk (hCT.blk bis.out (fun h => by omega))
          have hIv1 := Aside0.mk hSO.view
          simp only at hIv1
          have hsm := Aside0.mk hAl.sm
          have hbd := Aside0.mk hAl.bd
          have rbi : Aside0 (wr.heap[gi]? = some (.cells #[.slice A1 s1.texts.length c1, .slice A2 s1.objs.length c2, .slice A3 s1.fibers.length c3, .int .i64 s1.cur, .int .i64 s1.steps, .int .i64 s1.spent, .int .i64 s1.read] 40)) := ⟨by rw [hAl.tx, hAl.ol, hAl.fl, hAl.c, hAl.st, hAl.sp, hAl.rd]; exact hbi.out⟩
          clear hAo hAl hSO hCT hbi hbo bia biw bis x1 o1 hO7 hB4 hB2 B1 B2 B3 B4 B5 B6 hO3 hO4 hO2 hR2 hM2 hml hAv hBv hIv hWv hV hO1 hc5 hc6 hc7
          have i0 : wr.cell? ⟨gi, 0, none⟩ = some (.slice A1 s1.texts.length c1) := blk_cell rbi.out 0
          have i1 : wr.cell? ⟨gi, 1, none⟩ = some (.slice A2 s1.objs.length c2) := blk_cell rbi.out 1
          have i2 : wr.cell? ⟨gi, 2, none⟩ = some (.slice A3 s1.fibers.length c3) := blk_cell rbi.out 2
          have i3 : wr.cell? ⟨gi, 3, none⟩ = some (.int .i64 s1.cur) := blk_cell rbi.out 3
          have i4 : wr.cell? ⟨gi, 4, none⟩ = some (.int .i64 s1.steps) := blk_cell rbi.out 4
          have i5 : wr.cell? ⟨gi, 5, none⟩ = some (.int .i64 s1.spent) := blk_cell rbi.out 5
          have i6 : wr.cell? ⟨gi, 6, none⟩ = some (.int .i64 s1.read) := blk_cell rbi.out 6
          go_upto_region 23 with (first | (go_at_call 24; go_must (refine (ref_CopyState _ A1 A2 A3 c1 c2 c3 s1 ros1 (Z2.map (·.1)) (Z2.map (·.2)) (hIv1.out.below bl) hsm.out).mono ?_); go_must (rintro e w8 ⟨⟨D1, Dn1, Dc1⟩, ⟨D2, Dn2, Dc2⟩, ⟨D3, Dn3, Dc3⟩, Dro, DZ, rfl, hO8, hc8⟩); go_must (simp only [svl]); go_must (obtain rfl : Dn1 = s1.texts.length := (hO8.t.len).1); go_must (obtain rfl : Dn2 = s1.objs.length := (hO8.o.len).1.trans hO8.oc.1); go_must (obtain rfl : Dn3 = s1.fibers.length := (hO8.b.len).1.trans (by rw [List.length_map]; exact hO8.bc.1)); go_must (replace hc8 := Aside0.mk hc8); go_must (have hDv := Aside0.mk hO8.view); go_must (simp only at hDv)) | (go_at_call 20; go_must (refine (ref_Canon _ D1 D2 D3 Dc1 Dc2 Dc3 s1 Dro (DZ.map (·.1)) (DZ.map (·.2)) (hDv.out.below bl) hsm.out hbd.out).mono ?_); go_must (rintro e w9 ⟨⟨N1, Nn1, Nc1⟩, ⟨N2, Nn2, Nc2⟩, ⟨N3, Nn3, Nc3⟩, Nro, NZ, rfl, hO9, hc9⟩); go_must (simp only [svl]); go_must (obtain rfl : Nn1 = (CanonQ s1).texts.length := (hO9.t.len).1); go_must (obtain rfl : Nn2 = (CanonQ s1).objs.length := (hO9.o.len).1.trans hO9.oc.1); go_must (obtain rfl : Nn3 = (CanonQ s1).fibers.length := (hO9.b.len).1.trans (by rw [List.length_map]; exact hO9.bc.1)); go_must (replace hc9 := Aside0.mk hc9); go_must (replace hO9 := Aside0.mk hO9)))
          (try simp only [Act.put, List.setIfInBounds_toArray, List.set_cons_zero, List.set_cons_succ])
          generalize hW : World.alloc w9 _ = W9
          obtain ⟨gn, hgn⟩ : ∃ g, g = w9.heap.size := ⟨_, rfl⟩
          rw [← hgn]
          have b9 : Aside0 (W9.heap[gn]? = some (.cells #[.slice N1 (CanonQ s1).texts.length Nc1, .slice N2 (CanonQ s1).objs.length Nc2, .slice N3 (CanonQ s1).fibers.length Nc3, .int .i64 s1.cur, .int .i64 s1.steps, .int .i64 s1.spent, .int .i64 s1.read] 40)) := ⟨by rw [hgn, ← hW]; exact heap_alloc_new w9 _⟩
          have hzgn : Aside0 (Chg (fun _ => False) w9 W9) := ⟨by rw [← hW]; exact cg⟩
          have hqgn := Aside0.mk hgn
          clear hW hgn
          have rbi9 : Aside0 (W9.heap[gi]? = some (.cells #[.slice A1 s1.texts.length c1, .slice A2 s1.objs.length c2, .slice A3 s1.fibers.length c3, .int .i64 s1.cur, .int .i64 s1.steps, .int .i64 s1.spent, .int .i64 s1.read] 40)) := ⟨bk⟩
          have hNv := Aside0.mk hO9.out.view
          simp only at hNv
          clear i0 i1 i2 i3 i4 i5 i6
          have i0 : W9.cell? ⟨gi, 0, none⟩ = some (.slice A1 s1.texts.length c1) := blk_cell rbi9.out 0
          have i1 : W9.cell? ⟨gi, 1, none⟩ = some (.slice A2 s1.objs.length c2) := blk_cell rbi9.out 1
          have i2 : W9.cell? ⟨gi, 2, none⟩ = some (.slice A3 s1.fibers.length c3) := blk_cell rbi9.out 2
          have i3 : W9.cell? ⟨gi, 3, none⟩ = some (.int .i64 s1.cur) := blk_cell rbi9.out 3
          have i4 : W9.cell? ⟨gi, 4, none⟩ = some (.int .i64 s1.steps) := blk_cell rbi9.out 4
          have i5 : W9.cell? ⟨gi, 5, none⟩ = some (.int .i64 s1.spent) := blk_cell rbi9.out 5
          have i6 : W9.cell? ⟨gi, 6, none⟩ = some (.int .i64 s1.read) := blk_cell rbi9.out 6
          go_upto_region 24 with ((go_at_call 21; go_must (refine (st_Canon _ A1 A2 A3 c1 c2 c3 s1 ros1 (Z2.map (·.1)) (Z2.map (·.2)) (hIv1.out.below bl) hsm.out hbd.out).mono ?_); go_must (rintro e w10 ⟨⟨M1, Mn1, Mc1⟩, ⟨M2, Mn2, Mc2⟩, ⟨M3, Mn3, Mc3⟩, Mro, MZ, rfl, hO10, hc10⟩); go_must (simp only [svl]); go_must (obtain rfl : Mn1 = (CanonQ s1).texts.length := (hO10.t.len).1); go_must (obtain rfl : Mn2 = (CanonQ s1).objs.length := (hO10.o.len).1.trans hO10.oc.1); go_must (obtain rfl : Mn3 = (CanonQ s1).fibers.length := (hO10.b.len).1.trans (by rw [List.length_map]; exact hO10.bc.1)); go_must (replace hc10 := Aside0.mk hc10); go_must (replace hO10 := Aside0.mk hO10)))
          (try simp only [Act.put, List.setIfInBounds_toArray, List.set_cons_zero, List.set_cons_succ])
          generalize hW : World.alloc w10 _ = W10
          obtain ⟨gc, hgc⟩ : ∃ g, g = w10.heap.size := ⟨_, rfl⟩
          rw [← hgc]
          have b10 : Aside0 (W10.heap[gc]? = some (.cells #[.slice M1 (CanonQ s1).texts.length Mc1, .slice M2 (CanonQ s1).objs.length Mc2, .slice M3 (CanonQ s1).fibers.length Mc3, .int .i64 s1.cur, .int .i64 s1.steps, .int .i64 s1.spent, .int .i64 s1.read] 40)) := ⟨by rw [hgc, ← hW]; exact heap_alloc_new w10 _⟩
          have hzgc : Aside0 (Chg (fun _ => False) w10 W10) := ⟨by rw [← hW]; exact cg⟩
          have hqgc := Aside0.mk hgc
          clear hW hgc
          have hMv := Aside0.mk hO10.out.view
          simp only at hMv
          clear i0 i1 i2 i3 i4 i5 i6
          have tbc : Aside0 (W10.heap[gc]? = some (.cells #[.slice M1 (CanonQ s1).texts.length Mc1, .slice M2 (CanonQ s1).objs.length Mc2, .slice M3 (CanonQ s1).fibers.length Mc3, .int .i64 s1.cur, .int .i64 s1.steps, .int .i64 s1.spent, .int .i64 s1.read] 40)) := ⟨bk⟩
          have bc0 : W10.cell? ⟨gc, 0, none⟩ = some (.slice M1 (CanonQ s1).texts.length Mc1) := blk_cell tbc.out 0
          have bc1 : W10.cell? ⟨gc, 1, none⟩ = some (.slice M2 (CanonQ s1).objs.length Mc2) := blk_cell tbc.out 1
          have bc2 : W10.cell? ⟨gc, 2, none⟩ = some (.slice M3 (CanonQ s1).fibers.length Mc3) := blk_cell tbc.out 2
          have bc3 : W10.cell? ⟨gc, 3, none⟩ = some (.int .i64 s1.cur) := blk_cell tbc.out 3
          have bc4 : W10.cell? ⟨gc, 4, none⟩ = some (.int .i64 s1.steps) := blk_cell tbc.out 4
          have bc5 : W10.cell? ⟨gc, 5, none⟩ = some (.int .i64 s1.spent) := blk_cell tbc.out 5
          have bc6 : W10.cell? ⟨gc, 6, none⟩ = some (.int .i64 s1.read) := blk_cell tbc.out 6
          have tbn : Aside0 (W10.heap[gn]? = some (.cells #[.slice N1 (CanonQ s1).texts.length Nc1, .slice N2 (CanonQ s1).objs.length Nc2, .slice N3 (CanonQ s1).fibers.length Nc3, .int .i64 s1.cur, .int .i64 s1.steps, .int .i64 s1.spent, .int .i64 s1.read] 40)) := ⟨bk⟩
          have bn0 : W10.cell? ⟨gn, 0, none⟩ = some (.slice N1 (CanonQ s1).texts.length Nc1) := blk_cell tbn.out 0
          have bn1 : W10.cell? ⟨gn, 1, none⟩ = some (.slice N2 (CanonQ s1).objs.length Nc2) := blk_cell tbn.out 1
          have bn2 : W10.cell? ⟨gn, 2, none⟩ = some (.slice N3 (CanonQ s1).fibers.length Nc3) := blk_cell tbn.out 2
          have bn3 : W10.cell? ⟨gn, 3, none⟩ = some (.int .i64 s1.cur) := blk_cell tbn.out 3
          have bn4 : W10.cell? ⟨gn, 4, none⟩ = some (.int .i64 s1.steps) := blk_cell tbn.out 4
          have bn5 : W10.cell? ⟨gn, 5, none⟩ = some (.int .i64 s1.spent) := blk_cell tbn.out 5
          have bn6 : W10.cell? ⟨gn, 6, none⟩ = some (.int .i64 s1.read) := blk_cell tbn.out 6
          have tba : Aside0 (W10.heap[ga]? = some (.cells #[.slice Q1 (CanonQ s).texts.length Qc1, .slice Q2 (CanonQ s).objs.length Qc2, .slice Q3 (CanonQ s).fibers.length Qc3, .int .i64 s.cur, .int .i64 s.steps, .int .i64 s.spent, .int .i64 s.read] 40)) := ⟨bk⟩
          have ba0 : W10.cell? ⟨ga, 0, none⟩ = some (.slice Q1 (CanonQ s).texts.length Qc1) := blk_cell tba.out 0
          have ba1 : W10.cell? ⟨ga, 1, none⟩ = some (.slice Q2 (CanonQ s).objs.length Qc2) := blk_cell tba.out 1
          have ba2 : W10.cell? ⟨ga, 2, none⟩ = some (.slice Q3 (CanonQ s).fibers.length Qc3) := blk_cell tba.out 2
          have ba3 : W10.cell? ⟨ga, 3, none⟩ = some (.int .i64 s.cur) := blk_cell tba.out 3
          have ba4 : W10.cell? ⟨ga, 4, none⟩ = some (.int .i64 s.steps) := blk_cell tba.out 4
          have ba5 : W10.cell? ⟨ga, 5, none⟩ = some (.int .i64 s.spent) := blk_cell tba.out 5
          have ba6 : W10.cell? ⟨ga, 6, none⟩ = some (.int .i64 s.read) := blk_cell tba.out 6
          have tbw : Aside0 (W10.heap[gw]? = some (.cells #[.slice P1 (CanonQ s).texts.length Pc1, .slice P2 (CanonQ s).objs.length Pc2, .slice P3 (CanonQ s).fibers.length Pc3, .int .i64 s.cur, .int .i64 s.steps, .int .i64 s.spent, .int .i64 s.read] 40)) := ⟨bk⟩
          have bw0 : W10.cell? ⟨gw, 0, none⟩ = some (.slice P1 (CanonQ s).texts.length Pc1) := blk_cell tbw.out 0
          have bw1 : W10.cell? ⟨gw, 1, none⟩ = some (.slice P2 (CanonQ s).objs.length Pc2) := blk_cell tbw.out 1
          have bw2 : W10.cell? ⟨gw, 2, none⟩ = some (.slice P3 (CanonQ s).fibers.length Pc3) := blk_cell tbw.out 2
          have bw3 : W10.cell? ⟨gw, 3, none⟩ = some (.int .i64 s.cur) := blk_cell tbw.out 3
          have bw4 : W10.cell? ⟨gw, 4, none⟩ = some (.int .i64 s.steps) := blk_cell tbw.out 4
          have bw5 : W10.cell? ⟨gw, 5, none⟩ = some (.int .i64 s.spent) := blk_cell tbw.out 5
          have bw6 : W10.cell? ⟨gw, 6, none⟩ = some (.int .i64 s.read) := blk_cell tbw.out 6
          have tbs : Aside0 (W10.heap[w.heap.size]? = some (.cells #[.slice tA s.texts.length tc, .slice oA s.objs.length oc, .slice bA s.fibers.length bc, .int .i64 s.cur, .int .i64 s.steps, .int .i64 s.spent, .int .i64 s.read] 40)) := ⟨bk⟩
          have bs0 : W10.cell? ⟨w.heap.size, 0, none⟩ = some (.slice tA s.texts.length tc) := blk_cell tbs.out 0
          have bs1 : W10.cell? ⟨w.heap.size, 1, none⟩ = some (.slice oA s.objs.length oc) := blk_cell tbs.out 1
          have bs2 : W10.cell? ⟨w.heap.size, 2, none⟩ = some (.slice bA s.fibers.length bc) := blk_cell tbs.out 2
          have bs3 : W10.cell? ⟨w.heap.size, 3, none⟩ = some (.int .i64 s.cur) := blk_cell tbs.out 3
          have bs4 : W10.cell? ⟨w.heap.size, 4, none⟩ = some (.int .i64 s.steps) := blk_cell tbs.out 4
          have bs5 : W10.cell? ⟨w.heap.size, 5, none⟩ = some (.int .i64 s.spent) := blk_cell tbs.out 5
          have bs6 : W10.cell? ⟨w.heap.size, 6, none⟩ = some (.int .i64 s.read) := blk_cell tbs.out 6
          have hwdd : Aside0 (Chg (fun _ => False) W10 W10.drew) := ⟨(Chg.refl (fun _ => False) W10).drew⟩
          refine start_ (n := 15) (S := fun w' => w'.cell? ⟨gc, 0, none⟩ = some (.slice M1 (CanonQ s1).texts.length Mc1) ∧ w'.cell? ⟨gc, 1, none⟩ = some (.slice M2 (CanonQ s1).objs.length Mc2) ∧ w'.cell? ⟨gc, 2, none⟩ = some (.slice M3 (CanonQ s1).fibers.length Mc3) ∧ w'.cell? ⟨gc, 3, none⟩ = some (.int .i64 s1.cur) ∧ w'.cell? ⟨gc, 4, none⟩ = some (.int .i64 s1.steps) ∧ w'.cell? ⟨gc, 5, none⟩ = some (.int .i64 s1.spent) ∧ w'.cell? ⟨gc, 6, none⟩ = some (.int .i64 s1.read) ∧ w'.cell? ⟨gn, 0, none⟩ = some (.slice N1 (CanonQ s1).texts.length Nc1) ∧ w'.cell? ⟨gn, 1, none⟩ = some (.slice N2 (CanonQ s1).objs.length Nc2) ∧ w'.cell? ⟨gn, 2, none⟩ = some (.slice N3 (CanonQ s1).fibers.length Nc3) ∧ w'.cell? ⟨gn, 3, none⟩ = some (.int .i64 s1.cur) ∧ w'.cell? ⟨gn, 4, none⟩ = some (.int .i64 s1.steps) ∧ w'.cell? ⟨gn, 5, none⟩ = some (.int .i64 s1.spent) ∧ w'.cell? ⟨gn, 6, none⟩ = some (.int .i64 s1.read) ∧ w'.cell? ⟨ga, 0, none⟩ = some (.slice Q1 (CanonQ s).texts.length Qc1) ∧ w'.cell? ⟨ga, 1, none⟩ = some (.slice Q2 (CanonQ s).objs.length Qc2) ∧ w'.cell? ⟨ga, 2, none⟩ = some (.slice Q3 (CanonQ s).fibers.length Qc3) ∧ w'.cell? ⟨ga, 3, none⟩ = some (.int .i64 s.cur) ∧ w'.cell? ⟨ga, 4, none⟩ = some (.int .i64 s.steps) ∧ w'.cell? ⟨ga, 5, none⟩ = some (.int .i64 s.spent) ∧ w'.cell? ⟨ga, 6, none⟩ = some (.int .i64 s.read) ∧ w'.cell? ⟨gw, 0, none⟩ = some (.slice P1 (CanonQ s).texts.length Pc1) ∧ w'.cell? ⟨gw, 1, none⟩ = some (.slice P2 (CanonQ s).objs.length Pc2) ∧ w'.cell? ⟨gw, 2, none⟩ = some (.slice P3 (CanonQ s).fibers.length Pc3) ∧ w'.cell? ⟨gw, 3, none⟩ = some (.int .i64 s.cur) ∧ w'.cell? ⟨gw, 4, none⟩ = some (.int .i64 s.steps) ∧ w'.cell? ⟨gw, 5, none⟩ = some (.int .i64 s.spent) ∧ w'.cell? ⟨gw, 6, none⟩ = some (.int .i64 s.read) ∧ w'.cell? ⟨w.heap.size, 0, none⟩ = some (.slice tA s.texts.length tc) ∧ w'.cell? ⟨w.heap.size, 1, none⟩ = some (.slice oA s.objs.length oc) ∧ w'.cell? ⟨w.heap.size, 2, none⟩ = some (.slice bA s.fibers.length bc) ∧ w'.cell? ⟨w.heap.size, 3, none⟩ = some (.int .i64 s.cur) ∧ w'.cell? ⟨w.heap.size, 4, none⟩ = some (.int .i64 s.steps) ∧ w'.cell? ⟨w.heap.size, 5, none⟩ = some (.int .i64 s.spent) ∧ w'.cell? ⟨w.heap.size, 6, none⟩ = some (.int .i64 s.read)) (ds := []) #[false, false, false, false, false, false, false, false, false, false, false, false, false, false, false] (by kernel_rfl) rfl rfl ⟨bc0, bc1, bc2, bc3, bc4, bc5, bc6, bn0, bn1, bn2, bn3, bn4, bn5, bn6, ba0, ba1, ba2, ba3, ba4, ba5, ba6, bw0, bw1, bw2, bw3, bw4, bw5, bw6, bs0, bs1, bs2, bs3, bs4, bs5, bs6⟩ (fun hHeld => ?_)
          refine take_ (i := 0) (N := some 117) (v := ?_) (a' := ?_) #[true, false, false, false, false, false, false, false, false, false, false, false, false, false, false] rfl rfl (by kernel_rfl) (fun _ _ _ h => h) (Or.inl ⟨by rfl, ?_⟩) hHeld ?_ ?_
          rotate_left
          · rintro w' ⟨s0, s1, s2, s3, s4, s5, s6, s7, s8, s9, s10, s11, s12, s13, s14, s15, s16, s17, s18, s19, s20, s21, s22, s23, s24, s25, s26, s27, s28, s29, s30, s31, s32, s33, s34⟩
            go_simp
            with_reducible rfl
          rotate_left
          · simp only [Act.put, List.setIfInBounds_toArray, List.set_cons_zero, List.set_cons_succ, i64_w, i32_w]
            rfl
          refine take_ (i := 1) (N := some 118) (v := ?_) (a' := ?_) #[true, true, false, false, false, false, false, false, false, false, false, false, false, false, false] rfl rfl (by kernel_rfl) (fun _ _ _ h => h) (Or.inl ⟨by rfl, ?_⟩) hHeld ?_ ?_
          rotate_left
          · rintro w' ⟨s0, s1, s2, s3, s4, s5, s6, s7, s8, s9, s10, s11, s12, s13, s14, s15, s16, s17, s18, s19, s20, s21, s22, s23, s24, s25, s26, s27, s28, s29, s30, s31, s32, s33, s34⟩
            go_simp
            with_reducible rfl
          rotate_left
          · simp only [Act.put, List.setIfInBounds_toArray, List.set_cons_zero, List.set_cons_succ, i64_w, i32_w]
            rfl
          refine one_ (i := 2) (N := some 119) #[true, true, true, false, false, false, false, false, false, false, false, false, false, false, false] rfl rfl (by kernel_rfl) (by decide) (fun K hK => ?_)
          refine goes_ Try.func22 (by kernel_rfl) rfl #[.agg #[.slice M1 (CanonQ s1).texts.length Mc1, .slice M2 (CanonQ s1).objs.length Mc2, .slice M3 (CanonQ s1).fibers.length Mc3, .int .i64 s1.cur, .int .i64 s1.steps, .int .i64 s1.spent, .int .i64 s1.read], .agg #[.slice N1 (CanonQ s1).texts.length Nc1, .slice N2 (CanonQ s1).objs.length Nc2, .slice N3 (CanonQ s1).fibers.length Nc3, .int .i64 s1.cur, .int .i64 s1.steps, .int .i64 s1.spent, .int .i64 s1.read]] (by rfl) rfl rfl (by simp only [List.map_toArray, List.map_cons, List.map_nil]; rfl) ?_
          with_reducible refine (told_yes (same_StateD W10.drew M1 M2 M3 N1 N2 N3 Mc1 Mc2 Mc3 Nc1 Nc2 Nc3 s1 s1 Mro Nro (MZ.map (·.1)) (NZ.map (·.1)) (MZ.map (·.2)) (NZ.map (·.2)) (hMv.out.below bl) (hNv.out.below bl)) rfl).mono ?_
          rintro e w11 ⟨rfl, hc11⟩
          refine ⟨_, rfl, ?_⟩
          replace hc11 := Aside0.mk hc11
          have k11 : Aside0 (Chg (fun _ => False) W10 w11) := ⟨hwdd.out.trans hc11.out (fun _ _ h => h)⟩
          refine hK.out _ _ ⟨(cell_chg0 bc0 k11.out), (cell_chg0 bc1 k11.out), (cell_chg0 bc2 k11.out), (cell_chg0 bc3 k11.out), (cell_chg0 bc4 k11.out), (cell_chg0 bc5 k11.out), (cell_chg0 bc6 k11.out), (cell_chg0 bn0 k11.out), (cell_chg0 bn1 k11.out), (cell_chg0 bn2 k11.out), (cell_chg0 bn3 k11.out), (cell_chg0 bn4 k11.out), (cell_chg0 bn5 k11.out), (cell_chg0 bn6 k11.out), (cell_chg0 ba0 k11.out), (cell_chg0 ba1 k11.out), (cell_chg0 ba2 k11.out), (cell_chg0 ba3 k11.out), (cell_chg0 ba4 k11.out), (cell_chg0 ba5 k11.out), (cell_chg0 ba6 k11.out), (cell_chg0 bw0 k11.out), (cell_chg0 bw1 k11.out), (cell_chg0 bw2 k11.out), (cell_chg0 bw3 k11.out), (cell_chg0 bw4 k11.out), (cell_chg0 bw5 k11.out), (cell_chg0 bw6 k11.out), (cell_chg0 bs0 k11.out), (cell_chg0 bs1 k11.out), (cell_chg0 bs2 k11.out), (cell_chg0 bs3 k11.out), (cell_chg0 bs4 k11.out), (cell_chg0 bs5 k11.out), (cell_chg0 bs6 k11.out)⟩ (fun hHeld => ?_)
          clear hK K
          refine norm_ (a' := ?_) ?_ ?_
          rotate_left
          · show Act.put _ (some 119) _ = _
            simp only [Act.put, List.setIfInBounds_toArray, List.set_cons_zero, List.set_cons_succ, i64_w, i32_w]
            rfl
          refine pure_ (i := 3) (N := some 120) (v := ?_) (a' := ?_) #[true, true, true, true, false, false, false, false, false, false, false, false, false, false, false] rfl rfl (by kernel_rfl) (fun _ _ _ h => h) (Or.inl ⟨by rfl, ?_⟩) ?_ ?_
          rotate_left
          · intro w'
            go_simp
            with_reducible rfl
          rotate_left
          · simp only [Act.put, List.setIfInBounds_toArray, List.set_cons_zero, List.set_cons_succ, i64_w, i32_w]
            rfl
          refine take_ (i := 4) (N := some 121) (v := ?_) (a' := ?_) #[true, true, true, true, true, false, false, false, false, false, false, false, false, false, false] rfl rfl (by kernel_rfl) (fun _ _ _ h => h) (Or.inl ⟨by rfl, ?_⟩) hHeld ?_ ?_
          rotate_left
          · rintro w' ⟨s0, s1, s2, s3, s4, s5, s6, s7, s8, s9, s10, s11, s12, s13, s14, s15, s16, s17, s18, s19, s20, s21, s22, s23, s24, s25, s26, s27, s28, s29, s30, s31, s32, s33, s34⟩
            go_simp
            with_reducible rfl
          rotate_left
          · simp only [Act.put, List.setIfInBounds_toArray, List.set_cons_zero, List.set_cons_succ, i64_w, i32_w]
            rfl
          refine take_ (i := 5) (N := some 122) (v := ?_) (a' := ?_) #[true, true, true, true, true, true, false, false, false, false, false, false, false, false, false] rfl rfl (by kernel_rfl) (fun _ _ _ h => h) (Or.inl ⟨by rfl, ?_⟩) hHeld ?_ ?_
          rotate_left
          · rintro w' ⟨s0, s1, s2, s3, s4, s5, s6, s7, s8, s9, s10, s11, s12, s13, s14, s15, s16, s17, s18, s19, s20, s21, s22, s23, s24, s25, s26, s27, s28, s29, s30, s31, s32, s33, s34⟩
            go_simp
            with_reducible rfl
          rotate_left
          · simp only [Act.put, List.setIfInBounds_toArray, List.set_cons_zero, List.set_cons_succ, i64_w, i32_w]
            rfl
          refine one_ (i := 6) (N := some 123) #[true, true, true, true, true, true, true, false, false, false, false, false, false, false, false] rfl rfl (by kernel_rfl) (by decide) (fun K hK => ?_)
          refine goes_ Try.func22 (by kernel_rfl) rfl #[.agg #[.slice Q1 (CanonQ s).texts.length Qc1, .slice Q2 (CanonQ s).objs.length Qc2, .slice Q3 (CanonQ s).fibers.length Qc3, .int .i64 s.cur, .int .i64 s.steps, .int .i64 s.spent, .int .i64 s.read], .agg #[.slice P1 (CanonQ s).texts.length Pc1, .slice P2 (CanonQ s).objs.length Pc2, .slice P3 (CanonQ s).fibers.length Pc3, .int .i64 s.cur, .int .i64 s.steps, .int .i64 s.spent, .int .i64 s.read]] (by rfl) rfl rfl (by simp only [List.map_toArray, List.map_cons, List.map_nil]; rfl) ?_
          with_reducible refine (told_yes (same_StateD w11 Q1 Q2 Q3 P1 P2 P3 Qc1 Qc2 Qc3 Pc1 Pc2 Pc3 s s Qro Pro (QZ.map (·.1)) (PZ.map (·.1)) (QZ.map (·.2)) (PZ.map (·.2)) (hAr.out.below bl) (hWr.out.below bl)) rfl).mono ?_
          rintro e w12 ⟨rfl, hc12⟩
          refine ⟨_, rfl, ?_⟩
          replace hc12 := Aside0.mk hc12
          have k12 := Aside0.mk (k11.out.trans hc12.out (fun _ _ h => h))
          refine hK.out _ _ ⟨(cell_chg0 bc0 k12.out), (cell_chg0 bc1 k12.out), (cell_chg0 bc2 k12.out), (cell_chg0 bc3 k12.out), (cell_chg0 bc4 k12.out), (cell_chg0 bc5 k12.out), (cell_chg0 bc6 k12.out), (cell_chg0 bn0 k12.out), (cell_chg0 bn1 k12.out), (cell_chg0 bn2 k12.out), (cell_chg0 bn3 k12.out), (cell_chg0 bn4 k12.out), (cell_chg0 bn5 k12.out), (cell_chg0 bn6 k12.out), (cell_chg0 ba0 k12.out), (cell_chg0 ba1 k12.out), (cell_chg0 ba2 k12.out), (cell_chg0 ba3 k12.out), (cell_chg0 ba4 k12.out), (cell_chg0 ba5 k12.out), (cell_chg0 ba6 k12.out), (cell_chg0 bw0 k12.out), (cell_chg0 bw1 k12.out), (cell_chg0 bw2 k12.out), (cell_chg0 bw3 k12.out), (cell_chg0 bw4 k12.out), (cell_chg0 bw5 k12.out), (cell_chg0 bw6 k12.out), (cell_chg0 bs0 k12.out), (cell_chg0 bs1 k12.out), (cell_chg0 bs2 k12.out), (cell_chg0 bs3 k12.out), (cell_chg0 bs4 k12.out), (cell_chg0 bs5 k12.out), (cell_chg0 bs6 k12.out)⟩ (fun hHeld => ?_)
          clear hK K
          refine norm_ (a' := ?_) ?_ ?_
          rotate_left
          · show Act.put _ (some 123) _ = _
            simp only [Act.put, List.setIfInBounds_toArray, List.set_cons_zero, List.set_cons_succ, i64_w, i32_w]
            rfl
          refine pure_ (i := 7) (N := some 124) (v := ?_) (a' := ?_) #[true, true, true, true, true, true, true, true, false, false, false, false, false, false, false] rfl rfl (by kernel_rfl) (fun _ _ _ h => h) (Or.inl ⟨by rfl, ?_⟩) ?_ ?_
          rotate_left
          · intro w'
            go_simp
            with_reducible rfl
          rotate_left
          · simp only [Act.put, List.setIfInBounds_toArray, List.set_cons_zero, List.set_cons_succ, i64_w, i32_w]
            rfl
          refine pure_ (i := 8) (N := some 125) (v := ?_) (a' := ?_) #[true, true, true, true, true, true, true, true, true, false, false, false, false, false, false] rfl rfl (by kernel_rfl) (fun _ _ _ h => h) (Or.inl ⟨by rfl, ?_⟩) ?_ ?_
          rotate_left
          · intro w'
            go_simp
            with_reducible rfl
          rotate_left
          · simp only [Act.put, List.setIfInBounds_toArray, List.set_cons_zero, List.set_cons_succ, i64_w, i32_w]
            rfl
          refine take_ (i := 9) (N := some 126) (v := ?_) (a' := ?_) #[true, true, true, true, true, true, true, true, true, true, false, false, false, false, false] rfl rfl (by kernel_rfl) (fun _ _ _ h => h) (Or.inl ⟨by rfl, ?_⟩) hHeld ?_ ?_
          rotate_left
          · rintro w' ⟨s0, s1, s2, s3, s4, s5, s6, s7, s8, s9, s10, s11, s12, s13, s14, s15, s16, s17, s18, s19, s20, s21, s22, s23, s24, s25, s26, s27, s28, s29, s30, s31, s32, s33, s34⟩
            go_simp
            with_reducible rfl
          rotate_left
          · simp only [Act.put, List.setIfInBounds_toArray, List.set_cons_zero, List.set_cons_succ, i64_w, i32_w]
            rfl
          refine take_ (i := 11) (N := some 128) (v := ?_) (a' := ?_) #[true, true, true, true, true, true, true, true, true, true, false, true, false, false, false] rfl rfl (by kernel_rfl) (fun _ _ _ h => h) (Or.inl ⟨by rfl, ?_⟩) hHeld ?_ ?_
          rotate_left
          · rintro w' ⟨s0, s1, s2, s3, s4, s5, s6, s7, s8, s9, s10, s11, s12, s13, s14, s15, s16, s17, s18, s19, s20, s21, s22, s23, s24, s25, s26, s27, s28, s29, s30, s31, s32, s33, s34⟩
            go_simp
            with_reducible rfl
          rotate_left
          · simp only [Act.put, List.setIfInBounds_toArray, List.set_cons_zero, List.set_cons_succ, i64_w, i32_w]
            rfl
          refine one_ (i := 10) (N := some 127) #[true, true, true, true, true, true, true, true, true, true, true, true, false, false, false] rfl rfl (by kernel_rfl) (by decide) (fun K hK => ?_)
          refine goes_ Try.func21 (by kernel_rfl) rfl #[.agg #[.slice tA s.texts.length tc, .slice oA s.objs.length oc, .slice bA s.fibers.length bc, .int .i64 s.cur, .int .i64 s.steps, .int .i64 s.spent, .int .i64 s.read]] (by rfl) rfl rfl (by simp only [List.map_toArray, List.map_cons, List.map_nil]; rfl) ?_
          with_reducible refine (st_Canon w12 tA oA bA tc oc bc s ros rbs L (hVr.out.below bl) hS.out hD.out).mono ?_
          rintro e w13 ⟨⟨T1, Tn1, Tc1⟩, ⟨T2, Tn2, Tc2⟩, ⟨T3, Tn3, Tc3⟩, Tro, TZ, rfl, hO13, hc13⟩
          obtain rfl : Tn1 = (CanonQ s).texts.length := (hO13.t.len).1
          obtain rfl : Tn2 = (CanonQ s).objs.length := (hO13.o.len).1.trans hO13.oc.1
          obtain rfl : Tn3 = (CanonQ s).fibers.length := (hO13.b.len).1.trans (by rw [List.length_map]; exact hO13.bc.1)
          refine ⟨.agg #[.slice T1 (CanonQ s).texts.length Tc1, .slice T2 (CanonQ s).objs.length Tc2, .slice T3 (CanonQ s).fibers.length Tc3, .int .i64 s.cur, .int .i64 s.steps, .int .i64 s.spent, .int .i64 s.read], rfl, ?_⟩
          replace hc13 := Aside0.mk hc13
          have hTv := Aside0.mk hO13.view
          simp only at hTv
          have k13 := Aside0.mk (k12.out.trans hc13.out (fun _ _ h => h))
          refine hK.out _ _ ⟨(cell_chg0 bc0 k13.out), (cell_chg0 bc1 k13.out), (cell_chg0 bc2 k13.out), (cell_chg0 bc3 k13.out), (cell_chg0 bc4 k13.out), (cell_chg0 bc5 k13.out), (cell_chg0 bc6 k13.out), (cell_chg0 bn0 k13.out), (cell_chg0 bn1 k13.out), (cell_chg0 bn2 k13.out), (cell_chg0 bn3 k13.out), (cell_chg0 bn4 k13.out), (cell_chg0 bn5 k13.out), (cell_chg0 bn6 k13.out), (cell_chg0 ba0 k13.out), (cell_chg0 ba1 k13.out), (cell_chg0 ba2 k13.out), (cell_chg0 ba3 k13.out), (cell_chg0 ba4 k13.out), (cell_chg0 ba5 k13.out), (cell_chg0 ba6 k13.out), (cell_chg0 bw0 k13.out), (cell_chg0 bw1 k13.out), (cell_chg0 bw2 k13.out), (cell_chg0 bw3 k13.out), (cell_chg0 bw4 k13.out), (cell_chg0 bw5 k13.out), (cell_chg0 bw6 k13.out), (cell_chg0 bs0 k13.out), (cell_chg0 bs1 k13.out), (cell_chg0 bs2 k13.out), (cell_chg0 bs3 k13.out), (cell_chg0 bs4 k13.out), (cell_chg0 bs5 k13.out), (cell_chg0 bs6 k13.out)⟩ (fun hHeld => ?_)
          clear hK K
          refine norm_ (a' := ?_) ?_ ?_
          rotate_left
          · show Act.put _ (some 127) _ = _
            simp only [Act.put, List.setIfInBounds_toArray, List.set_cons_zero, List.set_cons_succ, i64_w, i32_w]
            rfl
          refine one_ (i := 12) (N := some 129) #[true, true, true, true, true, true, true, true, true, true, true, true, true, false, false] rfl rfl (by kernel_rfl) (by decide) (fun K hK => ?_)
          refine goes_ Try.func22 (by kernel_rfl) rfl #[.agg #[.slice T1 (CanonQ s).texts.length Tc1, .slice T2 (CanonQ s).objs.length Tc2, .slice T3 (CanonQ s).fibers.length Tc3, .int .i64 s.cur, .int .i64 s.steps, .int .i64 s.spent, .int .i64 s.read], .agg #[.slice P1 (CanonQ s).texts.length Pc1, .slice P2 (CanonQ s).objs.length Pc2, .slice P3 (CanonQ s).fibers.length Pc3, .int .i64 s.cur, .int .i64 s.steps, .int .i64 s.spent, .int .i64 s.read]] (by rfl) rfl rfl (by simp only [List.map_toArray, List.map_cons, List.map_nil]; rfl) ?_
          with_reducible refine (told_yes (same_StateD w13 T1 T2 T3 P1 P2 P3 Tc1 Tc2 Tc3 Pc1 Pc2 Pc3 s s Tro Pro (TZ.map (·.1)) (PZ.map (·.1)) (TZ.map (·.2)) (PZ.map (·.2)) (hTv.out.below bl) (hWr.out.below bl)) rfl).mono ?_
          rintro e w14 ⟨rfl, hc14⟩
          refine ⟨_, rfl, ?_⟩
          replace hc14 := Aside0.mk hc14
          have k14 := Aside0.mk (k13.out.trans hc14.out (fun _ _ h => h))
          refine hK.out _ _ ⟨(cell_chg0 bc0 k14.out), (cell_chg0 bc1 k14.out), (cell_chg0 bc2 k14.out), (cell_chg0 bc3 k14.out), (cell_chg0 bc4 k14.out), (cell_chg0 bc5 k14.out), (cell_chg0 bc6 k14.out), (cell_chg0 bn0 k14.out), (cell_chg0 bn1 k14.out), (cell_chg0 bn2 k14.out), (cell_chg0 bn3 k14.out), (cell_chg0 bn4 k14.out), (cell_chg0 bn5 k14.out), (cell_chg0 bn6 k14.out), (cell_chg0 ba0 k14.out), (cell_chg0 ba1 k14.out), (cell_chg0 ba2 k14.out), (cell_chg0 ba3 k14.out), (cell_chg0 ba4 k14.out), (cell_chg0 ba5 k14.out), (cell_chg0 ba6 k14.out), (cell_chg0 bw0 k14.out), (cell_chg0 bw1 k14.out), (cell_chg0 bw2 k14.out), (cell_chg0 bw3 k14.out), (cell_chg0 bw4 k14.out), (cell_chg0 bw5 k14.out), (cell_chg0 bw6 k14.out), (cell_chg0 bs0 k14.out), (cell_chg0 bs1 k14.out), (cell_chg0 bs2 k14.out), (cell_chg0 bs3 k14.out), (cell_chg0 bs4 k14.out), (cell_chg0 bs5 k14.out), (cell_chg0 bs6 k14.out)⟩ (fun hHeld => ?_)
          clear hK K
          refine norm_ (a' := ?_) ?_ ?_
          rotate_left
          · show Act.put _ (some 129) _ = _
            simp only [Act.put, List.setIfInBounds_toArray, List.set_cons_zero, List.set_cons_succ, i64_w, i32_w]
            rfl
          refine pure_ (i := 13) (N := some 130) (v := ?_) (a' := ?_) #[true, true, true, true, true, true, true, true, true, true, true, true, true, true, false] rfl rfl (by kernel_rfl) (fun _ _ _ h => h) (Or.inl ⟨by rfl, ?_⟩) ?_ ?_
          rotate_left
          · intro w'
            go_simp
            with_reducible rfl
          rotate_left
          · simp only [Act.put, List.setIfInBounds_toArray, List.set_cons_zero, List.set_cons_succ, i64_w, i32_w]
            rfl
          refine pure_ (i := 14) (N := some 4) (v := ?_) (a' := ?_) #[true, true, true, true, true, true, true, true, true, true, true, true, true, true, true] rfl rfl (by kernel_rfl) (fun _ _ _ h => h) (Or.inl ⟨by rfl, ?_⟩) ?_ ?_
          rotate_left
          · intro w'
            go_simp
            with_reducible rfl
          rotate_left
          · simp only [Act.put, List.setIfInBounds_toArray, List.set_cons_zero, List.set_cons_succ, i64_w, i32_w]
            rfl
          refine done_ (by kernel_rfl) ?_

          go_wp2
          go_ret
          exact ⟨rfl, bl⟩
end Go.Proofs.Ytdoghjmanogelaa.K
