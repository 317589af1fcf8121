import Derived.Test.YtdoghjmanogelaaVu
import Derived.Test.YtdoghjmanogelaaSq
import Derived.IntWalk
import Derived.BigQuiet
import Derived.Deep.RegionHeld3
namespace Go.Proofs.Ytdoghjmanogelaa.K
open Go.RowKit Go.Proofs.YtdoghjmanogelaaW.PrintWords Go.Proofs.YtdoghjmanogelaaW.PrintLast Go.Proofs.YtdoghjmanogelaaW.PrintMore
set_option linter.unusedVariables false
set_option linter.unusedSimpArgs false
set_option maxRecDepth 100000
theorem state_boundC {s : QS} (h : okQS s) : SBound s :=
  ⟨fun b hb f hf v hv => (wf_i64 (((h.2.2.1.2 b hb).2 f hf).2.2.2 v hv).2).2, fun x hx v hv => (wf_i64 ((h.2.1.2 x hx).2.1.2 v hv).2).2, fun x hx v hv => (wf_i64 ((h.2.1.2 x hx).2.2.1.2 v hv)).2⟩
theorem same_StateD (w : World) (P1 P2 P3 Q1 Q2 Q3 : Option Addr) (Pc1 Pc2 Pc3 Qc1 Qc2 Qc3 : Nat) (s s' : QS) (ros ros' : List RO) (rbs rbs' : List RB) (L L' : List (List RF)) (h : SView w P1 P2 P3 (CanonQ s) ros rbs L) (h' : SView w Q1 Q2 Q3 (CanonQ s') ros' rbs' L') :
    Calls Try.prog 22 #[.agg #[.slice P1 (CanonQ s).texts.length Pc1, .slice P2 (CanonQ s).objs.length Pc2, .slice P3 (CanonQ s).fibers.length Pc3, .int .i64 s.cur, .int .i64 s.steps, .int .i64 s.spent, .int .i64 s.read], .agg #[.slice Q1 (CanonQ s').texts.length Qc1, .slice Q2 (CanonQ s').objs.length Qc2, .slice Q3 (CanonQ s').fibers.length Qc3, .int .i64 s'.cur, .int .i64 s'.steps, .int .i64 s'.spent, .int .i64 s'.read]] w (Told (CanonQ s = CanonQ s') w) := same_State w P1 P2 P3 Q1 Q2 Q3 Pc1 Pc2 Pc3 Qc1 Qc2 Qc3 (CanonQ s) (CanonQ s') ros ros' rbs rbs' L L' h h'
set_option maxHeartbeats 4000000
theorem law_statesMemory (w : World) (tA oA bA tA' oA' bA' : Option Addr) (tc oc bc tc' oc' bc' : Nat) (s s' : QS) (ros ros' : List RO) (rbs rbs' : List RB) (L L' : List (List RF)) (h : SView w tA oA bA s ros rbs L) (h' : SView w tA' oA' bA' s' ros' rbs' L') (hs : SSmall s) (hs' : SSmall s') (hb : SBound s) (hb' : SBound s') (hr : (rowsS s).length ≤ 1048576) (hr' : (rowsS s').length ≤ 1048576) :
    Calls Try.prog 6 #[.agg #[.slice tA s.texts.length tc, .slice oA s.objs.length oc, .slice bA s.fibers.length bc, .int .i64 s.cur, .int .i64 s.steps, .int .i64 s.spent, .int .i64 s.read], .agg #[.slice tA' s'.texts.length tc', .slice oA' s'.objs.length oc', .slice bA' s'.fibers.length bc', .int .i64 s'.cur, .int .i64 s'.steps, .int .i64 s'.spent, .int .i64 s'.read]] w fun e w' => e = .returned (.bool true) ∧ Below w.heap.size w w' := by
  have hV := Aside0.mk h
  have hV2 := Aside0.mk h'
  have hS := Aside0.mk hs
  have hS2 := Aside0.mk hs'
  have hD := Aside0.mk hb
  have hD2 := Aside0.mk hb'
  have hf : Aside0 ((rowsB s.fibers).length ≤ 1048576) := ⟨by rw [rowsS, List.length_append] at hr; omega⟩
  have hf2 : Aside0 ((rowsB s'.fibers).length ≤ 1048576) := ⟨by rw [rowsS, List.length_append] at hr'; omega⟩
  clear h h' hs hs' hb hb' hr hr'
  go_enter Try.func6, Try.ntmps6
  go_upto_region 1 with (fail)
  (try simp only [Act.put, List.setIfInBounds_toArray, List.set_cons_zero, List.set_cons_succ])
  generalize hW : World.alloc (World.alloc w _) _ = W0
  have B1 : Aside0 (W0.heap[w.heap.size]? = some (.cells #[.slice tA s.texts.length tc, .slice oA s.objs.length oc, .slice bA s.fibers.length bc, .int .i64 s.cur, .int .i64 s.steps, .int .i64 s.spent, .int .i64 s.read] 40)) := ⟨by rw [← hW]; exact ((Chg.refl (fun _ => False) (w.alloc _)).alloc _).blk (heap_alloc_new w _) (fun e => e)⟩
  have B2 : Aside0 (W0.heap[w.heap.size + 1]? = some (.cells #[.slice tA' s'.texts.length tc', .slice oA' s'.objs.length oc', .slice bA' s'.fibers.length bc', .int .i64 s'.cur, .int .i64 s'.steps, .int .i64 s'.spent, .int .i64 s'.read] 40)) := ⟨by rw [← hW]; exact heap_alloc2_new w _ _⟩
  have hz0 : Aside0 (Chg (fun _ => False) w W0) := ⟨by rw [← hW]; exact cg⟩
  clear hW
  have hgtW := Aside0.mk (blk_lt B2.out)
  have p0 : W0.cell? ⟨w.heap.size, 0, none⟩ = some (.slice tA s.texts.length tc) := blk_cell B1.out 0
  have p1 : W0.cell? ⟨w.heap.size, 1, none⟩ = some (.slice oA s.objs.length oc) := blk_cell B1.out 1
  have p2 : W0.cell? ⟨w.heap.size, 2, none⟩ = some (.slice bA s.fibers.length bc) := blk_cell B1.out 2
  have p3 : W0.cell? ⟨w.heap.size, 3, none⟩ = some (.int .i64 s.cur) := blk_cell B1.out 3
  have p4 : W0.cell? ⟨w.heap.size, 4, none⟩ = some (.int .i64 s.steps) := blk_cell B1.out 4
  have p5 : W0.cell? ⟨w.heap.size, 5, none⟩ = some (.int .i64 s.spent) := blk_cell B1.out 5
  have p6 : W0.cell? ⟨w.heap.size, 6, none⟩ = some (.int .i64 s.read) := blk_cell B1.out 6
  go_upto_region 2 with ((go_at_call 20; go_must (refine (ref_Canon _ tA oA bA tc oc bc s ros rbs L (hV.out.below bl) hS.out hD.out).mono ?_); go_must (rintro e w1 ⟨⟨P1, Pn1, Pc1⟩, ⟨P2, Pn2, Pc2⟩, ⟨P3, Pn3, Pc3⟩, Pro, PZ, rfl, hO1, hc1⟩); go_must (simp only [svl]); go_must (obtain rfl : Pn1 = (CanonQ s).texts.length := (hO1.t.len).1); go_must (obtain rfl : Pn2 = (CanonQ s).objs.length := (hO1.o.len).1.trans hO1.oc.1); go_must (obtain rfl : Pn3 = (CanonQ s).fibers.length := (hO1.b.len).1.trans (by rw [List.length_map]; exact hO1.bc.1)); go_must (replace hc1 := Aside0.mk hc1); go_must (replace hO1 := Aside0.mk hO1)))
  (try simp only [Act.put, List.setIfInBounds_toArray, List.set_cons_zero, List.set_cons_succ])
  clear p0 p1 p2 p3 p4 p5 p6
  generalize hW : World.alloc w1 _ = W1
  obtain ⟨gw, hgw⟩ : ∃ g, g = w1.heap.size := ⟨_, rfl⟩
  rw [← hgw]
  have B3 : Aside0 (W1.heap[gw]? = some (.cells #[.slice P1 (CanonQ s).texts.length Pc1, .slice P2 (CanonQ s).objs.length Pc2, .slice P3 (CanonQ s).fibers.length Pc3, .int .i64 s.cur, .int .i64 s.steps, .int .i64 s.spent, .int .i64 s.read] 40)) := ⟨by rw [hgw, ← hW]; exact heap_alloc_new w1 _⟩
  have hzgw : Aside0 (Chg (fun _ => False) w1 W1) := ⟨by rw [← hW]; exact cg⟩
  have hqgw := Aside0.mk hgw
  clear hW hgw
  replace B1 := Aside0.mk (hzgw.out.blk (hc1.out.blk B1.out (fun h => h)) (fun h => h))
  replace B2 := Aside0.mk (hzgw.out.blk (hc1.out.blk B2.out (fun h => h)) (fun h => h))
  have hgwl := Aside0.mk (blk_lt B3.out)
  have hWv := Aside0.mk hO1.out.view
  simp only at hWv
  have p0 : W1.cell? ⟨w.heap.size, 0, none⟩ = some (.slice tA s.texts.length tc) := blk_cell B1.out 0
  have p1 : W1.cell? ⟨w.heap.size, 1, none⟩ = some (.slice oA s.objs.length oc) := blk_cell B1.out 1
  have p2 : W1.cell? ⟨w.heap.size, 2, none⟩ = some (.slice bA s.fibers.length bc) := blk_cell B1.out 2
  have p3 : W1.cell? ⟨w.heap.size, 3, none⟩ = some (.int .i64 s.cur) := blk_cell B1.out 3
  have p4 : W1.cell? ⟨w.heap.size, 4, none⟩ = some (.int .i64 s.steps) := blk_cell B1.out 4
  have p5 : W1.cell? ⟨w.heap.size, 5, none⟩ = some (.int .i64 s.spent) := blk_cell B1.out 5
  have p6 : W1.cell? ⟨w.heap.size, 6, none⟩ = some (.int .i64 s.read) := blk_cell B1.out 6
  go_upto_region 3 with ((go_at_call 24; go_must (refine (ref_CopyState _ tA oA bA tc oc bc s ros rbs L (hV.out.below bl) hS.out).mono ?_); go_must (rintro e w2 ⟨⟨A1, An1, Ac1⟩, ⟨A2, An2, Ac2⟩, ⟨A3, An3, Ac3⟩, Aro, AZ, rfl, hO2, hc2⟩); go_must (simp only [svl]); go_must (obtain rfl : An1 = s.texts.length := (hO2.t.len).1); go_must (obtain rfl : An2 = s.objs.length := (hO2.o.len).1.trans hO2.oc.1); go_must (obtain rfl : An3 = s.fibers.length := (hO2.b.len).1.trans (by rw [List.length_map]; exact hO2.bc.1)); go_must (replace hc2 := Aside0.mk hc2); go_must (replace hO2 := Aside0.mk hO2); go_must (have hAv := Aside0.mk hO2.out.view); go_must (simp only at hAv)))
  (try simp only [Act.put, List.setIfInBounds_toArray, List.set_cons_zero, List.set_cons_succ])
  clear p0 p1 p2 p3 p4 p5 p6
  generalize hW : World.alloc w2 _ = W2
  obtain ⟨gi, hgi⟩ : ∃ g, g = w2.heap.size := ⟨_, rfl⟩
  rw [← hgi]
  have B4 : Aside0 (W2.heap[gi]? = some (.cells #[.slice A1 s.texts.length Ac1, .slice A2 s.objs.length Ac2, .slice A3 s.fibers.length Ac3, .int .i64 s.cur, .int .i64 s.steps, .int .i64 s.spent, .int .i64 s.read] 40)) := ⟨by rw [hgi, ← hW]; exact heap_alloc_new w2 _⟩
  have hzgi : Aside0 (Chg (fun _ => False) w2 W2) := ⟨by rw [← hW]; exact cg⟩
  have hqgi := Aside0.mk hgi
  clear hW hgi
  replace B1 := Aside0.mk (hzgi.out.blk (hc2.out.blk B1.out (fun h => h)) (fun h => h))
  replace B2 := Aside0.mk (hzgi.out.blk (hc2.out.blk B2.out (fun h => h)) (fun h => h))
  replace B3 := Aside0.mk (hzgi.out.blk (hc2.out.blk B3.out (fun h => h)) (fun h => h))
  have hgil := Aside0.mk (blk_lt B4.out)
  have i0 : W2.cell? ⟨gi, 0, none⟩ = some (.slice A1 s.texts.length Ac1) := blk_cell B4.out 0
  have i1 : W2.cell? ⟨gi, 1, none⟩ = some (.slice A2 s.objs.length Ac2) := blk_cell B4.out 1
  have i2 : W2.cell? ⟨gi, 2, none⟩ = some (.slice A3 s.fibers.length Ac3) := blk_cell B4.out 2
  have i3 : W2.cell? ⟨gi, 3, none⟩ = some (.int .i64 s.cur) := blk_cell B4.out 3
  have i4 : W2.cell? ⟨gi, 4, none⟩ = some (.int .i64 s.steps) := blk_cell B4.out 4
  have i5 : W2.cell? ⟨gi, 5, none⟩ = some (.int .i64 s.spent) := blk_cell B4.out 5
  have i6 : W2.cell? ⟨gi, 6, none⟩ = some (.int .i64 s.read) := blk_cell B4.out 6
  go_upto_region 4 with ((go_at_call 21; go_must (refine (st_CanonA _ A1 A2 A3 Ac1 Ac2 Ac3 s Aro (AZ.map (·.1)) (AZ.map (·.2)) (hAv.out.below bl) hS.out hD.out).mono ?_); go_must (rintro e w3 ⟨⟨Q1, Qn1, Qc1⟩, ⟨Q2, Qn2, Qc2⟩, ⟨Q3, Qn3, Qc3⟩, Qro, QZ, rfl, hO3, hc3, hp3, hk3⟩); go_must (simp only [svl]); go_must (obtain rfl : Qn1 = (CanonQ s).texts.length := (hO3.t.len).1); go_must (obtain rfl : Qn2 = (CanonQ s).objs.length := (hO3.o.len).1.trans hO3.oc.1); go_must (obtain rfl : Qn3 = (CanonQ s).fibers.length := (hO3.b.len).1.trans (by rw [List.length_map]; exact hO3.bc.1)); go_must (replace hc3 := Aside0.mk hc3); go_must (replace hO3 := Aside0.mk hO3); go_must (replace hp3 := Aside0.mk hp3); go_must (replace hk3 := Aside0.mk hk3)))
  (try simp only [Act.put, List.setIfInBounds_toArray, List.set_cons_zero, List.set_cons_succ])
  clear i0 i1 i2 i3 i4 i5 i6
  generalize hW : World.alloc w3 _ = W3
  obtain ⟨ga, hga⟩ : ∃ g, g = w3.heap.size := ⟨_, rfl⟩
  rw [← hga]
  have B5 : Aside0 (W3.heap[ga]? = some (.cells #[.slice Q1 (CanonQ s).texts.length Qc1, .slice Q2 (CanonQ s).objs.length Qc2, .slice Q3 (CanonQ s).fibers.length Qc3, .int .i64 s.cur, .int .i64 s.steps, .int .i64 s.spent, .int .i64 s.read] 40)) := ⟨by rw [hga, ← hW]; exact heap_alloc_new w3 _⟩
  have hzga : Aside0 (Chg (fun _ => False) w3 W3) := ⟨by rw [← hW]; exact cg⟩
  have hqga := Aside0.mk hga
  clear hW hga
  replace B1 := Aside0.mk (hzga.out.blk (hc3.out.blk B1.out (fun h => h)) (fun h => h))
  replace B2 := Aside0.mk (hzga.out.blk (hc3.out.blk B2.out (fun h => h)) (fun h => h))
  replace B3 := Aside0.mk (hzga.out.blk (hc3.out.blk B3.out (fun h => h)) (fun h => h))
  replace B4 := Aside0.mk (hzga.out.blk (hc3.out.blk B4.out (fun h => h)) (fun h => h))
  have hgal := Aside0.mk (blk_lt B5.out)
  have hQv := Aside0.mk hO3.out.view
  simp only at hQv
  have i0 : W3.cell? ⟨gi, 0, none⟩ = some (.slice A1 s.texts.length Ac1) := blk_cell B4.out 0
  have i1 : W3.cell? ⟨gi, 1, none⟩ = some (.slice A2 s.objs.length Ac2) := blk_cell B4.out 1
  have i2 : W3.cell? ⟨gi, 2, none⟩ = some (.slice A3 s.fibers.length Ac3) := blk_cell B4.out 2
  have i3 : W3.cell? ⟨gi, 3, none⟩ = some (.int .i64 s.cur) := blk_cell B4.out 3
  have i4 : W3.cell? ⟨gi, 4, none⟩ = some (.int .i64 s.steps) := blk_cell B4.out 4
  have i5 : W3.cell? ⟨gi, 5, none⟩ = some (.int .i64 s.spent) := blk_cell B4.out 5
  have i6 : W3.cell? ⟨gi, 6, none⟩ = some (.int .i64 s.read) := blk_cell B4.out 6
  go_upto_region 5 with ((go_at_call 21; go_must (refine (st_CanonA _ A1 A2 A3 Ac1 Ac2 Ac3 s Aro (AZ.map (·.1)) (AZ.map (·.2)) (hAv.out.below bl) hS.out hD.out).mono ?_); go_must (rintro e w4 ⟨⟨E1, En1, Ec1⟩, ⟨E2, En2, Ec2⟩, ⟨E3, En3, Ec3⟩, Ero, EZ, rfl, hO4, hc4, hp4, hk4⟩); go_must (simp only [svl]); go_must (obtain rfl : En1 = (CanonQ s).texts.length := (hO4.t.len).1); go_must (obtain rfl : En2 = (CanonQ s).objs.length := (hO4.o.len).1.trans hO4.oc.1); go_must (obtain rfl : En3 = (CanonQ s).fibers.length := (hO4.b.len).1.trans (by rw [List.length_map]; exact hO4.bc.1)); go_must (replace hc4 := Aside0.mk hc4); go_must (replace hO4 := Aside0.mk hO4); go_must (replace hp4 := Aside0.mk hp4); go_must (replace hk4 := Aside0.mk hk4)))
  (try simp only [Act.put, List.setIfInBounds_toArray, List.set_cons_zero, List.set_cons_succ])
  clear i0 i1 i2 i3 i4 i5 i6
  generalize hW : World.alloc w4 _ = W4
  obtain ⟨gb, hgb⟩ : ∃ g, g = w4.heap.size := ⟨_, rfl⟩
  rw [← hgb]
  have B6 : Aside0 (W4.heap[gb]? = some (.cells #[.slice E1 (CanonQ s).texts.length Ec1, .slice E2 (CanonQ s).objs.length Ec2, .slice E3 (CanonQ s).fibers.length Ec3, .int .i64 s.cur, .int .i64 s.steps, .int .i64 s.spent, .int .i64 s.read] 40)) := ⟨by rw [hgb, ← hW]; exact heap_alloc_new w4 _⟩
  have hzgb : Aside0 (Chg (fun _ => False) w4 W4) := ⟨by rw [← hW]; exact cg⟩
  have hqgb := Aside0.mk hgb
  clear hW hgb
  replace B1 := Aside0.mk (hzgb.out.blk (hc4.out.blk B1.out (fun h => h)) (fun h => h))
  replace B2 := Aside0.mk (hzgb.out.blk (hc4.out.blk B2.out (fun h => h)) (fun h => h))
  replace B3 := Aside0.mk (hzgb.out.blk (hc4.out.blk B3.out (fun h => h)) (fun h => h))
  replace B4 := Aside0.mk (hzgb.out.blk (hc4.out.blk B4.out (fun h => h)) (fun h => h))
  replace B5 := Aside0.mk (hzgb.out.blk (hc4.out.blk B5.out (fun h => h)) (fun h => h))
  have hgbl := Aside0.mk (blk_lt B6.out)
  have hEv := Aside0.mk hO4.out.view
  simp only at hEv
  have p0 : W4.cell? ⟨w.heap.size + 1, 0, none⟩ = some (.slice tA' s'.texts.length tc') := blk_cell B2.out 0
  have p1 : W4.cell? ⟨w.heap.size + 1, 1, none⟩ = some (.slice oA' s'.objs.length oc') := blk_cell B2.out 1
  have p2 : W4.cell? ⟨w.heap.size + 1, 2, none⟩ = some (.slice bA' s'.fibers.length bc') := blk_cell B2.out 2
  have p3 : W4.cell? ⟨w.heap.size + 1, 3, none⟩ = some (.int .i64 s'.cur) := blk_cell B2.out 3
  have p4 : W4.cell? ⟨w.heap.size + 1, 4, none⟩ = some (.int .i64 s'.steps) := blk_cell B2.out 4
  have p5 : W4.cell? ⟨w.heap.size + 1, 5, none⟩ = some (.int .i64 s'.spent) := blk_cell B2.out 5
  have p6 : W4.cell? ⟨w.heap.size + 1, 6, none⟩ = some (.int .i64 s'.read) := blk_cell B2.out 6
  go_upto_region 6 with (first | (go_at_call 24; go_must (refine (ref_CopyState _ tA' oA' bA' tc' oc' bc' s' ros' rbs' L' (hV2.out.below bl) hS2.out).mono ?_); go_must (rintro e w5 ⟨⟨D1, Dn1, Dc1⟩, ⟨D2, Dn2, Dc2⟩, ⟨D3, Dn3, Dc3⟩, Dro, DZ, rfl, hO5, hc5⟩); go_must (simp only [svl]); go_must (obtain rfl : Dn1 = s'.texts.length := (hO5.t.len).1); go_must (obtain rfl : Dn2 = s'.objs.length := (hO5.o.len).1.trans hO5.oc.1); go_must (obtain rfl : Dn3 = s'.fibers.length := (hO5.b.len).1.trans (by rw [List.length_map]; exact hO5.bc.1)); go_must (replace hc5 := Aside0.mk hc5); go_must (replace hO5 := Aside0.mk hO5); go_must (have hDv := Aside0.mk hO5.out.view); go_must (simp only at hDv)) | (go_at_call 21; go_must (refine (st_CanonA _ D1 D2 D3 Dc1 Dc2 Dc3 s' Dro (DZ.map (·.1)) (DZ.map (·.2)) (hDv.out.below bl) hS2.out hD2.out).mono ?_); go_must (rintro e w6 ⟨⟨H1, Hn1, Hc1⟩, ⟨H2, Hn2, Hc2⟩, ⟨H3, Hn3, Hc3⟩, Hro, HZ, rfl, hO6, hc6, hp6, hk6⟩); go_must (simp only [svl]); go_must (obtain rfl : Hn1 = (CanonQ s').texts.length := (hO6.t.len).1); go_must (obtain rfl : Hn2 = (CanonQ s').objs.length := (hO6.o.len).1.trans hO6.oc.1); go_must (obtain rfl : Hn3 = (CanonQ s').fibers.length := (hO6.b.len).1.trans (by rw [List.length_map]; exact hO6.bc.1)); go_must (replace hc6 := Aside0.mk hc6); go_must (replace hO6 := Aside0.mk hO6); go_must (replace hp6 := Aside0.mk hp6); go_must (replace hk6 := Aside0.mk hk6)))
  (try simp only [Act.put, List.setIfInBounds_toArray, List.set_cons_zero, List.set_cons_succ])
  clear p0 p1 p2 p3 p4 p5 p6
  have hc56 : Aside0 (Chg (fun _ => False) W4 w6) := ⟨hc5.out.trans hc6.out (fun _ _ h => h)⟩
  generalize hW : World.alloc w6 _ = W6
  obtain ⟨gc, hgc⟩ : ∃ g, g = w6.heap.size := ⟨_, rfl⟩
  rw [← hgc]
  have B7 : Aside0 (W6.heap[gc]? = some (.cells #[.slice H1 (CanonQ s').texts.length Hc1, .slice H2 (CanonQ s').objs.length Hc2, .slice H3 (CanonQ s').fibers.length Hc3, .int .i64 s'.cur, .int .i64 s'.steps, .int .i64 s'.spent, .int .i64 s'.read] 40)) := ⟨by rw [hgc, ← hW]; exact heap_alloc_new w6 _⟩
  have hzgc : Aside0 (Chg (fun _ => False) w6 W6) := ⟨by rw [← hW]; exact cg⟩
  have hqgc := Aside0.mk hgc
  clear hW hgc
  replace B1 := Aside0.mk (hzgc.out.blk (hc56.out.blk B1.out (fun h => h)) (fun h => h))
  replace B2 := Aside0.mk (hzgc.out.blk (hc56.out.blk B2.out (fun h => h)) (fun h => h))
  replace B3 := Aside0.mk (hzgc.out.blk (hc56.out.blk B3.out (fun h => h)) (fun h => h))
  replace B4 := Aside0.mk (hzgc.out.blk (hc56.out.blk B4.out (fun h => h)) (fun h => h))
  replace B5 := Aside0.mk (hzgc.out.blk (hc56.out.blk B5.out (fun h => h)) (fun h => h))
  replace B6 := Aside0.mk (hzgc.out.blk (hc56.out.blk B6.out (fun h => h)) (fun h => h))
  have hgcl := Aside0.mk (blk_lt B7.out)
  have hHv := Aside0.mk hO6.out.view
  simp only at hHv
  have a0 : W6.cell? ⟨ga, 0, none⟩ = some (.slice Q1 (CanonQ s).texts.length Qc1) := blk_cell B5.out 0
  have a1 : W6.cell? ⟨ga, 1, none⟩ = some (.slice Q2 (CanonQ s).objs.length Qc2) := blk_cell B5.out 1
  have a2 : W6.cell? ⟨ga, 2, none⟩ = some (.slice Q3 (CanonQ s).fibers.length Qc3) := blk_cell B5.out 2
  have a3 : W6.cell? ⟨ga, 3, none⟩ = some (.int .i64 s.cur) := blk_cell B5.out 3
  have a4 : W6.cell? ⟨ga, 4, none⟩ = some (.int .i64 s.steps) := blk_cell B5.out 4
  have a5 : W6.cell? ⟨ga, 5, none⟩ = some (.int .i64 s.spent) := blk_cell B5.out 5
  have a6 : W6.cell? ⟨ga, 6, none⟩ = some (.int .i64 s.read) := blk_cell B5.out 6
  have e0 : W6.cell? ⟨gw, 0, none⟩ = some (.slice P1 (CanonQ s).texts.length Pc1) := blk_cell B3.out 0
  have e1 : W6.cell? ⟨gw, 1, none⟩ = some (.slice P2 (CanonQ s).objs.length Pc2) := blk_cell B3.out 1
  have e2 : W6.cell? ⟨gw, 2, none⟩ = some (.slice P3 (CanonQ s).fibers.length Pc3) := blk_cell B3.out 2
  have e3 : W6.cell? ⟨gw, 3, none⟩ = some (.int .i64 s.cur) := blk_cell B3.out 3
  have e4 : W6.cell? ⟨gw, 4, none⟩ = some (.int .i64 s.steps) := blk_cell B3.out 4
  have e5 : W6.cell? ⟨gw, 5, none⟩ = some (.int .i64 s.spent) := blk_cell B3.out 5
  have e6 : W6.cell? ⟨gw, 6, none⟩ = some (.int .i64 s.read) := blk_cell B3.out 6
  go_upto_region 8 with (first | (go_at_call 22; (with_reducible refine (told_yes (same_StateD _ Q1 Q2 Q3 P1 P2 P3 Qc1 Qc2 Qc3 Pc1 Pc2 Pc3 s s Qro Pro (QZ.map (·.1)) (PZ.map (·.1)) (QZ.map (·.2)) (PZ.map (·.2)) (hQv.out.below bl) (hWv.out.below bl)) rfl).mono ?_); go_must (rintro e w7 ⟨rfl, hc7⟩); go_must (replace hc7 := Aside0.mk hc7); go_must (have p7_0 : w7.cell? ⟨gb, 0, none⟩ = some (.slice E1 (CanonQ s).texts.length Ec1) := blk_cell (cs := #[.slice E1 (CanonQ s).texts.length Ec1, .slice E2 (CanonQ s).objs.length Ec2, .slice E3 (CanonQ s).fibers.length Ec3, .int .i64 s.cur, .int .i64 s.steps, .int .i64 s.spent, .int .i64 s.read]) (t := 40) bk 0); go_must (have p7_1 : w7.cell? ⟨gb, 1, none⟩ = some (.slice E2 (CanonQ s).objs.length Ec2) := blk_cell (cs := #[.slice E1 (CanonQ s).texts.length Ec1, .slice E2 (CanonQ s).objs.length Ec2, .slice E3 (CanonQ s).fibers.length Ec3, .int .i64 s.cur, .int .i64 s.steps, .int .i64 s.spent, .int .i64 s.read]) (t := 40) bk 1); go_must (have p7_2 : w7.cell? ⟨gb, 2, none⟩ = some (.slice E3 (CanonQ s).fibers.length Ec3) := blk_cell (cs := #[.slice E1 (CanonQ s).texts.length Ec1, .slice E2 (CanonQ s).objs.length Ec2, .slice E3 (CanonQ s).fibers.length Ec3, .int .i64 s.cur, .int .i64 s.steps, .int .i64 s.spent, .int .i64 s.read]) (t := 40) bk 2); go_must (have p7_3 : w7.cell? ⟨gb, 3, none⟩ = some (.int .i64 s.cur) := blk_cell (cs := #[.slice E1 (CanonQ s).texts.length Ec1, .slice E2 (CanonQ s).objs.length Ec2, .slice E3 (CanonQ s).fibers.length Ec3, .int .i64 s.cur, .int .i64 s.steps, .int .i64 s.spent, .int .i64 s.read]) (t := 40) bk 3); go_must (have p7_4 : w7.cell? ⟨gb, 4, none⟩ = some (.int .i64 s.steps) := blk_cell (cs := #[.slice E1 (CanonQ s).texts.length Ec1, .slice E2 (CanonQ s).objs.length Ec2, .slice E3 (CanonQ s).fibers.length Ec3, .int .i64 s.cur, .int .i64 s.steps, .int .i64 s.spent, .int .i64 s.read]) (t := 40) bk 4); go_must (have p7_5 : w7.cell? ⟨gb, 5, none⟩ = some (.int .i64 s.spent) := blk_cell (cs := #[.slice E1 (CanonQ s).texts.length Ec1, .slice E2 (CanonQ s).objs.length Ec2, .slice E3 (CanonQ s).fibers.length Ec3, .int .i64 s.cur, .int .i64 s.steps, .int .i64 s.spent, .int .i64 s.read]) (t := 40) bk 5); go_must (have p7_6 : w7.cell? ⟨gb, 6, none⟩ = some (.int .i64 s.read) := blk_cell (cs := #[.slice E1 (CanonQ s).texts.length Ec1, .slice E2 (CanonQ s).objs.length Ec2, .slice E3 (CanonQ s).fibers.length Ec3, .int .i64 s.cur, .int .i64 s.steps, .int .i64 s.spent, .int .i64 s.read]) (t := 40) bk 6); go_must (have p7_7 : w7.cell? ⟨gw, 0, none⟩ = some (.slice P1 (CanonQ s).texts.length Pc1) := blk_cell (cs := #[.slice P1 (CanonQ s).texts.length Pc1, .slice P2 (CanonQ s).objs.length Pc2, .slice P3 (CanonQ s).fibers.length Pc3, .int .i64 s.cur, .int .i64 s.steps, .int .i64 s.spent, .int .i64 s.read]) (t := 40) bk 0); go_must (have p7_8 : w7.cell? ⟨gw, 1, none⟩ = some (.slice P2 (CanonQ s).objs.length Pc2) := blk_cell (cs := #[.slice P1 (CanonQ s).texts.length Pc1, .slice P2 (CanonQ s).objs.length Pc2, .slice P3 (CanonQ s).fibers.length Pc3, .int .i64 s.cur, .int .i64 s.steps, .int .i64 s.spent, .int .i64 s.read]) (t := 40) bk 1); go_must (have p7_9 : w7.cell? ⟨gw, 2, none⟩ = some (.slice P3 (CanonQ s).fibers.length Pc3) := blk_cell (cs := #[.slice P1 (CanonQ s).texts.length Pc1, .slice P2 (CanonQ s).objs.length Pc2, .slice P3 (CanonQ s).fibers.length Pc3, .int .i64 s.cur, .int .i64 s.steps, .int .i64 s.spent, .int .i64 s.read]) (t := 40) bk 2); go_must (have p7_10 : w7.cell? ⟨gw, 3, none⟩ = some (.int .i64 s.cur) := blk_cell (cs := #[.slice P1 (CanonQ s).texts.length Pc1, .slice P2 (CanonQ s).objs.length Pc2, .slice P3 (CanonQ s).fibers.length Pc3, .int .i64 s.cur, .int .i64 s.steps, .int .i64 s.spent, .int .i64 s.read]) (t := 40) bk 3); go_must (have p7_11 : w7.cell? ⟨gw, 4, none⟩ = some (.int .i64 s.steps) := blk_cell (cs := #[.slice P1 (CanonQ s).texts.length Pc1, .slice P2 (CanonQ s).objs.length Pc2, .slice P3 (CanonQ s).fibers.length Pc3, .int .i64 s.cur, .int .i64 s.steps, .int .i64 s.spent, .int .i64 s.read]) (t := 40) bk 4); go_must (have p7_12 : w7.cell? ⟨gw, 5, none⟩ = some (.int .i64 s.spent) := blk_cell (cs := #[.slice P1 (CanonQ s).texts.length Pc1, .slice P2 (CanonQ s).objs.length Pc2, .slice P3 (CanonQ s).fibers.length Pc3, .int .i64 s.cur, .int .i64 s.steps, .int .i64 s.spent, .int .i64 s.read]) (t := 40) bk 5); go_must (have p7_13 : w7.cell? ⟨gw, 6, none⟩ = some (.int .i64 s.read) := blk_cell (cs := #[.slice P1 (CanonQ s).texts.length Pc1, .slice P2 (CanonQ s).objs.length Pc2, .slice P3 (CanonQ s).fibers.length Pc3, .int .i64 s.cur, .int .i64 s.steps, .int .i64 s.spent, .int .i64 s.read]) (t := 40) bk 6)) | (go_at_call 22; (with_reducible refine (told_yes (same_StateD _ E1 E2 E3 P1 P2 P3 Ec1 Ec2 Ec3 Pc1 Pc2 Pc3 s s Ero Pro (EZ.map (·.1)) (PZ.map (·.1)) (EZ.map (·.2)) (PZ.map (·.2)) (hEv.out.below bl) (hWv.out.below bl)) rfl).mono ?_); go_must (rintro e w8 ⟨rfl, hc8⟩); go_must (replace hc8 := Aside0.mk hc8); go_must (have p8_0 : w8.cell? ⟨ga, 0, none⟩ = some (.slice Q1 (CanonQ s).texts.length Qc1) := blk_cell (cs := #[.slice Q1 (CanonQ s).texts.length Qc1, .slice Q2 (CanonQ s).objs.length Qc2, .slice Q3 (CanonQ s).fibers.length Qc3, .int .i64 s.cur, .int .i64 s.steps, .int .i64 s.spent, .int .i64 s.read]) (t := 40) bk 0); go_must (have p8_1 : w8.cell? ⟨ga, 1, none⟩ = some (.slice Q2 (CanonQ s).objs.length Qc2) := blk_cell (cs := #[.slice Q1 (CanonQ s).texts.length Qc1, .slice Q2 (CanonQ s).objs.length Qc2, .slice Q3 (CanonQ s).fibers.length Qc3, .int .i64 s.cur, .int .i64 s.steps, .int .i64 s.spent, .int .i64 s.read]) (t := 40) bk 1); go_must (have p8_2 : w8.cell? ⟨ga, 2, none⟩ = some (.slice Q3 (CanonQ s).fibers.length Qc3) := blk_cell (cs := #[.slice Q1 (CanonQ s).texts.length Qc1, .slice Q2 (CanonQ s).objs.length Qc2, .slice Q3 (CanonQ s).fibers.length Qc3, .int .i64 s.cur, .int .i64 s.steps, .int .i64 s.spent, .int .i64 s.read]) (t := 40) bk 2); go_must (have p8_3 : w8.cell? ⟨ga, 3, none⟩ = some (.int .i64 s.cur) := blk_cell (cs := #[.slice Q1 (CanonQ s).texts.length Qc1, .slice Q2 (CanonQ s).objs.length Qc2, .slice Q3 (CanonQ s).fibers.length Qc3, .int .i64 s.cur, .int .i64 s.steps, .int .i64 s.spent, .int .i64 s.read]) (t := 40) bk 3); go_must (have p8_4 : w8.cell? ⟨ga, 4, none⟩ = some (.int .i64 s.steps) := blk_cell (cs := #[.slice Q1 (CanonQ s).texts.length Qc1, .slice Q2 (CanonQ s).objs.length Qc2, .slice Q3 (CanonQ s).fibers.length Qc3, .int .i64 s.cur, .int .i64 s.steps, .int .i64 s.spent, .int .i64 s.read]) (t := 40) bk 4); go_must (have p8_5 : w8.cell? ⟨ga, 5, none⟩ = some (.int .i64 s.spent) := blk_cell (cs := #[.slice Q1 (CanonQ s).texts.length Qc1, .slice Q2 (CanonQ s).objs.length Qc2, .slice Q3 (CanonQ s).fibers.length Qc3, .int .i64 s.cur, .int .i64 s.steps, .int .i64 s.spent, .int .i64 s.read]) (t := 40) bk 5); go_must (have p8_6 : w8.cell? ⟨ga, 6, none⟩ = some (.int .i64 s.read) := blk_cell (cs := #[.slice Q1 (CanonQ s).texts.length Qc1, .slice Q2 (CanonQ s).objs.length Qc2, .slice Q3 (CanonQ s).fibers.length Qc3, .int .i64 s.cur, .int .i64 s.steps, .int .i64 s.spent, .int .i64 s.read]) (t := 40) bk 6)))
  (try simp only [Act.put, List.setIfInBounds_toArray, List.set_cons_zero, List.set_cons_succ])
  have hz68 : Aside0 (Chg (fun _ => False) W6 w8) := ⟨cg⟩
  have hRa3 : Aside0 (RawS w3 W2.heap.size w3.heap.size ⟨(Q1, (CanonQ s).texts.length, Qc1), (Q2, (CanonQ s).objs.length, Qc2), (Q3, (CanonQ s).fibers.length, Qc3), Qro, QZ.map (fun z => (z.1.frames, z.2)), s.cur, s.steps, s.spent, s.read⟩) := ⟨hO3.out.raw (canon_small hS.out).1 (by rw [(canon_small hS.out).2]; exact hf.out) hp3.out hk3.out _ _ _ _⟩
  have hRb4 : Aside0 (RawS w4 W3.heap.size w4.heap.size ⟨(E1, (CanonQ s).texts.length, Ec1), (E2, (CanonQ s).objs.length, Ec2), (E3, (CanonQ s).fibers.length, Ec3), Ero, EZ.map (fun z => (z.1.frames, z.2)), s.cur, s.steps, s.spent, s.read⟩) := ⟨hO4.out.raw (canon_small hS.out).1 (by rw [(canon_small hS.out).2]; exact hf.out) hp4.out hk4.out _ _ _ _⟩
  have hRc6 : Aside0 (RawS w6 w5.heap.size w6.heap.size ⟨(H1, (CanonQ s').texts.length, Hc1), (H2, (CanonQ s').objs.length, Hc2), (H3, (CanonQ s').fibers.length, Hc3), Hro, HZ.map (fun z => (z.1.frames, z.2)), s'.cur, s'.steps, s'.spent, s'.read⟩) := ⟨hO6.out.raw (canon_small hS2.out).1 (by rw [(canon_small hS2.out).2]; exact hf2.out) hp6.out hk6.out _ _ _ _⟩
  have hRa8 := Aside0.mk (hRa3.out.chg (cg : Chg (fun _ => False) w3 w8) (fun _ h => h.elim))
  have hRb8 := Aside0.mk (hRb4.out.chg (cg : Chg (fun _ => False) w4 w8) (fun _ h => h.elim))
  have hRc8 := Aside0.mk (hRc6.out.chg (cg : Chg (fun _ => False) w6 w8) (fun _ h => h.elim))
  clear hp3 hk3 hp4 hk4 hp6 hk6 hRa3 hRb4 hRc6
  go_upto_region 9 with ((go_at_call 25; go_must (refine (law_spoil _ Q1 Q2 Q3 _ Qc1 _ Qc2 _ Qc3 _ _ _ _ Qro (QZ.map (fun z => (z.1.frames, z.2))) hRa8.out.o.2 hRa8.out.b.2 (fun k z hz => ⟨Nat.le_trans (hRa8.out.f z (List.mem_of_getElem? hz)).1 (by decide), (hRa8.out.f z (List.mem_of_getElem? hz)).2⟩) hRa8.out.fa.disj (Nat.le_trans hRa8.out.o.1 (by decide)) (Nat.le_trans hRa8.out.b.1 (by decide))).mono ?_); go_must (rintro e w9 hsp); go_must (obtain rfl := hsp.1); go_must (replace hsp := Aside0.mk hsp)))
  (try simp only [Act.put, List.setIfInBounds_toArray, List.set_cons_zero, List.set_cons_succ])
  have hc9 : Aside0 (Chg (SpoilS (Q2, (CanonQ s).objs.length, Qc2) (Q3, (CanonQ s).fibers.length, Qc3) (QZ.map (fun z => (z.1.frames, z.2)))) w8 w9) := ⟨hsp.out.2.2.2.2⟩
  have hS9 : Aside0 (∀ b, SpoilS (Q2, (CanonQ s).objs.length, Qc2) (Q3, (CanonQ s).fibers.length, Qc3) (QZ.map (fun z => (z.1.frames, z.2))) b → W2.heap.size ≤ b ∧ b < w3.heap.size) := ⟨fun b hb => by
    rcases hb with hb | hb | ⟨k, p, hp, hb⟩
    · exact hRa8.out.hr _ (by simp) b hb
    · exact hRa8.out.hr _ (by simp) b hb
    · exact hRa8.out.fr p (List.mem_of_getElem? hp) b hb⟩
  have hsz : Aside0 (w.heap.size + 1 < W0.heap.size ∧ W0.heap.size ≤ w1.heap.size ∧ gw = w1.heap.size ∧ gw < W1.heap.size ∧ W1.heap.size ≤ w2.heap.size ∧ gi = w2.heap.size ∧ gi < W2.heap.size ∧ W2.heap.size ≤ w3.heap.size ∧ ga = w3.heap.size ∧ ga < W3.heap.size ∧ W3.heap.size ≤ w4.heap.size ∧ gb = w4.heap.size ∧ gb < W4.heap.size ∧ W4.heap.size ≤ w5.heap.size ∧ w5.heap.size ≤ w6.heap.size ∧ gc = w6.heap.size ∧ gc < W6.heap.size ∧ W6.heap.size ≤ w8.heap.size) := ⟨hgtW.out, hc1.out.size, hqgw.out, hgwl.out, hc2.out.size, hqgi.out, hgil.out, hc3.out.size, hqga.out, hgal.out, hc4.out.size, hqgb.out, hgbl.out, hc5.out.size, hc6.out.size, hqgc.out, hgcl.out, hz68.out.size⟩
  obtain ⟨ro9, zs9, hRa9⟩ := hRa8.out.spoilt hsp.out
  replace hRa9 := Aside0.mk hRa9
  have hRb9 := Aside0.mk (hRb8.out.chg hc9.out (fun b hb hr => by have h1 := hS9.out b hb; have h2 := hsz.out; omega))
  have hRc9 := Aside0.mk (hRc8.out.chg hc9.out (fun b hb hr => by have h1 := hS9.out b hb; have h2 := hsz.out; omega))
  have h09 : Aside0 (Chg (fun _ => False) w w9) := ⟨(cg : Chg (fun _ => False) w w8).trans hc9.out (fun b h1 hb => by have h2 := hS9.out b hb; have h3 := hsz.out; omega)⟩
  have h19 : Aside0 (Chg (fun _ => False) w1 w9) := ⟨(cg : Chg (fun _ => False) w1 w8).trans hc9.out (fun b h1 hb => by have h2 := hS9.out b hb; have h3 := hsz.out; omega)⟩
  have h29 : Aside0 (Chg (fun _ => False) w2 w9) := ⟨(cg : Chg (fun _ => False) w2 w8).trans hc9.out (fun b h1 hb => by have h2 := hS9.out b hb; have h3 := hsz.out; omega)⟩
  have hVr := Aside0.mk (hV.out.below (h09.out.below (fun _ _ h => h)))
  have hV2r := Aside0.mk (hV2.out.below (h09.out.below (fun _ _ h => h)))
  have hWr := Aside0.mk (hWv.out.below (h19.out.below (fun _ _ h => h)))
  have hAr := Aside0.mk (hAv.out.below (h29.out.below (fun _ _ h => h)))
  have hEr := Aside0.mk (((hO4.out.hit (cg : Chg (fun _ => False) w4 w8) Hits.no).hit hc9.out (Hits.old (fun b hb => by have h1 := hS9.out b hb; have h2 := hsz.out; omega))).view)
  simp only at hEr
  have hHr := Aside0.mk (((hO6.out.hit (cg : Chg (fun _ => False) w6 w8) Hits.no).hit hc9.out (Hits.old (fun b hb => by have h1 := hS9.out b hb; have h2 := hsz.out; omega))).view)
  simp only at hHr
  have qqi : Aside0 (w9.heap[gi]? = some (.cells #[.slice A1 s.texts.length Ac1, .slice A2 s.objs.length Ac2, .slice A3 s.fibers.length Ac3, .int .i64 s.cur, .int .i64 s.steps, .int .i64 s.spent, .int .i64 s.read] 40)) := ⟨hc9.out.blk (hz68.out.blk B4.out (fun h => h)) (fun h => by have h1 := hS9.out _ h; have h2 := hsz.out; omega)⟩
  have qqs : Aside0 (w9.heap[w.heap.size]? = some (.cells #[.slice tA s.texts.length tc, .slice oA s.objs.length oc, .slice bA s.fibers.length bc, .int .i64 s.cur, .int .i64 s.steps, .int .i64 s.spent, .int .i64 s.read] 40)) := ⟨hc9.out.blk (hz68.out.blk B1.out (fun h => h)) (fun h => by have h1 := hS9.out _ h; have h2 := hsz.out; omega)⟩
  have qqb : Aside0 (w9.heap[gb]? = some (.cells #[.slice E1 (CanonQ s).texts.length Ec1, .slice E2 (CanonQ s).objs.length Ec2, .slice E3 (CanonQ s).fibers.length Ec3, .int .i64 s.cur, .int .i64 s.steps, .int .i64 s.spent, .int .i64 s.read] 40)) := ⟨hc9.out.blk (hz68.out.blk B6.out (fun h => h)) (fun h => by have h1 := hS9.out _ h; have h2 := hsz.out; omega)⟩
  have qqw : Aside0 (w9.heap[gw]? = some (.cells #[.slice P1 (CanonQ s).texts.length Pc1, .slice P2 (CanonQ s).objs.length Pc2, .slice P3 (CanonQ s).fibers.length Pc3, .int .i64 s.cur, .int .i64 s.steps, .int .i64 s.spent, .int .i64 s.read] 40)) := ⟨hc9.out.blk (hz68.out.blk B3.out (fun h => h)) (fun h => by have h1 := hS9.out _ h; have h2 := hsz.out; omega)⟩
  have qqc : Aside0 (w9.heap[gc]? = some (.cells #[.slice H1 (CanonQ s').texts.length Hc1, .slice H2 (CanonQ s').objs.length Hc2, .slice H3 (CanonQ s').fibers.length Hc3, .int .i64 s'.cur, .int .i64 s'.steps, .int .i64 s'.spent, .int .i64 s'.read] 40)) := ⟨hc9.out.blk (hz68.out.blk B7.out (fun h => h)) (fun h => by have h1 := hS9.out _ h; have h2 := hsz.out; omega)⟩
  have qqo : Aside0 (w9.heap[w.heap.size + 1]? = some (.cells #[.slice tA' s'.texts.length tc', .slice oA' s'.objs.length oc', .slice bA' s'.fibers.length bc', .int .i64 s'.cur, .int .i64 s'.steps, .int .i64 s'.spent, .int .i64 s'.read] 40)) := ⟨hc9.out.blk (hz68.out.blk B2.out (fun h => h)) (fun h => by have h1 := hS9.out _ h; have h2 := hsz.out; omega)⟩
  have qqa : Aside0 (w9.heap[ga]? = some (.cells #[.slice Q1 (CanonQ s).texts.length Qc1, .slice Q2 (CanonQ s).objs.length Qc2, .slice Q3 (CanonQ s).fibers.length Qc3, .int .i64 s.cur, .int .i64 s.steps, .int .i64 s.spent, .int .i64 s.read] 40)) := ⟨hc9.out.blk (hz68.out.blk B5.out (fun h => h)) (fun h => by have h1 := hS9.out _ h; have h2 := hsz.out; omega)⟩
  clear hsp hO1 hO2 hO4 hO5 hO6 hV2 hAv hDv hEv hHv hQv hRa8 hRb8 hRc8 hO3 B1 B2 B3 B4 B5 B6 B7 hf hf2
  (try clear a0 a1 a2 a3 a4 a5 a6 e0 e1 e2 e3 e4 e5 e6)
  have i_0 : w9.cell? ⟨gi, 0, none⟩ = some (.slice A1 s.texts.length Ac1) := blk_cell qqi.out 0
  have i_1 : w9.cell? ⟨gi, 1, none⟩ = some (.slice A2 s.objs.length Ac2) := blk_cell qqi.out 1
  have i_2 : w9.cell? ⟨gi, 2, none⟩ = some (.slice A3 s.fibers.length Ac3) := blk_cell qqi.out 2
  have i_3 : w9.cell? ⟨gi, 3, none⟩ = some (.int .i64 s.cur) := blk_cell qqi.out 3
  have i_4 : w9.cell? ⟨gi, 4, none⟩ = some (.int .i64 s.steps) := blk_cell qqi.out 4
  have i_5 : w9.cell? ⟨gi, 5, none⟩ = some (.int .i64 s.spent) := blk_cell qqi.out 5
  have i_6 : w9.cell? ⟨gi, 6, none⟩ = some (.int .i64 s.read) := blk_cell qqi.out 6
  have s_0 : w9.cell? ⟨w.heap.size, 0, none⟩ = some (.slice tA s.texts.length tc) := blk_cell qqs.out 0
  have s_1 : w9.cell? ⟨w.heap.size, 1, none⟩ = some (.slice oA s.objs.length oc) := blk_cell qqs.out 1
  have s_2 : w9.cell? ⟨w.heap.size, 2, none⟩ = some (.slice bA s.fibers.length bc) := blk_cell qqs.out 2
  have s_3 : w9.cell? ⟨w.heap.size, 3, none⟩ = some (.int .i64 s.cur) := blk_cell qqs.out 3
  have s_4 : w9.cell? ⟨w.heap.size, 4, none⟩ = some (.int .i64 s.steps) := blk_cell qqs.out 4
  have s_5 : w9.cell? ⟨w.heap.size, 5, none⟩ = some (.int .i64 s.spent) := blk_cell qqs.out 5
  have s_6 : w9.cell? ⟨w.heap.size, 6, none⟩ = some (.int .i64 s.read) := blk_cell qqs.out 6
  have b_0 : w9.cell? ⟨gb, 0, none⟩ = some (.slice E1 (CanonQ s).texts.length Ec1) := blk_cell qqb.out 0
  have b_1 : w9.cell? ⟨gb, 1, none⟩ = some (.slice E2 (CanonQ s).objs.length Ec2) := blk_cell qqb.out 1
  have b_2 : w9.cell? ⟨gb, 2, none⟩ = some (.slice E3 (CanonQ s).fibers.length Ec3) := blk_cell qqb.out 2
  have b_3 : w9.cell? ⟨gb, 3, none⟩ = some (.int .i64 s.cur) := blk_cell qqb.out 3
  have b_4 : w9.cell? ⟨gb, 4, none⟩ = some (.int .i64 s.steps) := blk_cell qqb.out 4
  have b_5 : w9.cell? ⟨gb, 5, none⟩ = some (.int .i64 s.spent) := blk_cell qqb.out 5
  have b_6 : w9.cell? ⟨gb, 6, none⟩ = some (.int .i64 s.read) := blk_cell qqb.out 6
  have w_0 : w9.cell? ⟨gw, 0, none⟩ = some (.slice P1 (CanonQ s).texts.length Pc1) := blk_cell qqw.out 0
  have w_1 : w9.cell? ⟨gw, 1, none⟩ = some (.slice P2 (CanonQ s).objs.length Pc2) := blk_cell qqw.out 1
  have w_2 : w9.cell? ⟨gw, 2, none⟩ = some (.slice P3 (CanonQ s).fibers.length Pc3) := blk_cell qqw.out 2
  have w_3 : w9.cell? ⟨gw, 3, none⟩ = some (.int .i64 s.cur) := blk_cell qqw.out 3
  have w_4 : w9.cell? ⟨gw, 4, none⟩ = some (.int .i64 s.steps) := blk_cell qqw.out 4
  have w_5 : w9.cell? ⟨gw, 5, none⟩ = some (.int .i64 s.spent) := blk_cell qqw.out 5
  have w_6 : w9.cell? ⟨gw, 6, none⟩ = some (.int .i64 s.read) := blk_cell qqw.out 6
  have c_0 : w9.cell? ⟨gc, 0, none⟩ = some (.slice H1 (CanonQ s').texts.length Hc1) := blk_cell qqc.out 0
  have c_1 : w9.cell? ⟨gc, 1, none⟩ = some (.slice H2 (CanonQ s').objs.length Hc2) := blk_cell qqc.out 1
  have c_2 : w9.cell? ⟨gc, 2, none⟩ = some (.slice H3 (CanonQ s').fibers.length Hc3) := blk_cell qqc.out 2
  have c_3 : w9.cell? ⟨gc, 3, none⟩ = some (.int .i64 s'.cur) := blk_cell qqc.out 3
  have c_4 : w9.cell? ⟨gc, 4, none⟩ = some (.int .i64 s'.steps) := blk_cell qqc.out 4
  have c_5 : w9.cell? ⟨gc, 5, none⟩ = some (.int .i64 s'.spent) := blk_cell qqc.out 5
  have c_6 : w9.cell? ⟨gc, 6, none⟩ = some (.int .i64 s'.read) := blk_cell qqc.out 6
  have o_0 : w9.cell? ⟨w.heap.size + 1, 0, none⟩ = some (.slice tA' s'.texts.length tc') := blk_cell qqo.out 0
  have o_1 : w9.cell? ⟨w.heap.size + 1, 1, none⟩ = some (.slice oA' s'.objs.length oc') := blk_cell qqo.out 1
  have o_2 : w9.cell? ⟨w.heap.size + 1, 2, none⟩ = some (.slice bA' s'.fibers.length bc') := blk_cell qqo.out 2
  have o_3 : w9.cell? ⟨w.heap.size + 1, 3, none⟩ = some (.int .i64 s'.cur) := blk_cell qqo.out 3
  have o_4 : w9.cell? ⟨w.heap.size + 1, 4, none⟩ = some (.int .i64 s'.steps) := blk_cell qqo.out 4
  have o_5 : w9.cell? ⟨w.heap.size + 1, 5, none⟩ = some (.int .i64 s'.spent) := blk_cell qqo.out 5
  have o_6 : w9.cell? ⟨w.heap.size + 1, 6, none⟩ = some (.int .i64 s'.read) := blk_cell qqo.out 6
  have hwdd : Aside0 (Chg (fun _ => False) w9 w9.drew) := ⟨(Chg.refl (fun _ => False) w9).drew⟩
  refine start_ (n := 17) (S := fun w' => w'.cell? ⟨gi, 0, none⟩ = some (.slice A1 s.texts.length Ac1) ∧ w'.cell? ⟨gi, 1, none⟩ = some (.slice A2 s.objs.length Ac2) ∧ w'.cell? ⟨gi, 2, none⟩ = some (.slice A3 s.fibers.length Ac3) ∧ w'.cell? ⟨gi, 3, none⟩ = some (.int .i64 s.cur) ∧ w'.cell? ⟨gi, 4, none⟩ = some (.int .i64 s.steps) ∧ w'.cell? ⟨gi, 5, none⟩ = some (.int .i64 s.spent) ∧ w'.cell? ⟨gi, 6, none⟩ = some (.int .i64 s.read) ∧ w'.cell? ⟨w.heap.size, 0, none⟩ = some (.slice tA s.texts.length tc) ∧ w'.cell? ⟨w.heap.size, 1, none⟩ = some (.slice oA s.objs.length oc) ∧ w'.cell? ⟨w.heap.size, 2, none⟩ = some (.slice bA s.fibers.length bc) ∧ w'.cell? ⟨w.heap.size, 3, none⟩ = some (.int .i64 s.cur) ∧ w'.cell? ⟨w.heap.size, 4, none⟩ = some (.int .i64 s.steps) ∧ w'.cell? ⟨w.heap.size, 5, none⟩ = some (.int .i64 s.spent) ∧ w'.cell? ⟨w.heap.size, 6, none⟩ = some (.int .i64 s.read) ∧ w'.cell? ⟨gb, 0, none⟩ = some (.slice E1 (CanonQ s).texts.length Ec1) ∧ w'.cell? ⟨gb, 1, none⟩ = some (.slice E2 (CanonQ s).objs.length Ec2) ∧ w'.cell? ⟨gb, 2, none⟩ = some (.slice E3 (CanonQ s).fibers.length Ec3) ∧ w'.cell? ⟨gb, 3, none⟩ = some (.int .i64 s.cur) ∧ w'.cell? ⟨gb, 4, none⟩ = some (.int .i64 s.steps) ∧ w'.cell? ⟨gb, 5, none⟩ = some (.int .i64 s.spent) ∧ w'.cell? ⟨gb, 6, none⟩ = some (.int .i64 s.read) ∧ w'.cell? ⟨gw, 0, none⟩ = some (.slice P1 (CanonQ s).texts.length Pc1) ∧ w'.cell? ⟨gw, 1, none⟩ = some (.slice P2 (CanonQ s).objs.length Pc2) ∧ w'.cell? ⟨gw, 2, none⟩ = some (.slice P3 (CanonQ s).fibers.length Pc3) ∧ w'.cell? ⟨gw, 3, none⟩ = some (.int .i64 s.cur) ∧ w'.cell? ⟨gw, 4, none⟩ = some (.int .i64 s.steps) ∧ w'.cell? ⟨gw, 5, none⟩ = some (.int .i64 s.spent) ∧ w'.cell? ⟨gw, 6, none⟩ = some (.int .i64 s.read) ∧ w'.cell? ⟨gc, 0, none⟩ = some (.slice H1 (CanonQ s').texts.length Hc1) ∧ w'.cell? ⟨gc, 1, none⟩ = some (.slice H2 (CanonQ s').objs.length Hc2) ∧ w'.cell? ⟨gc, 2, none⟩ = some (.slice H3 (CanonQ s').fibers.length Hc3) ∧ w'.cell? ⟨gc, 3, none⟩ = some (.int .i64 s'.cur) ∧ w'.cell? ⟨gc, 4, none⟩ = some (.int .i64 s'.steps) ∧ w'.cell? ⟨gc, 5, none⟩ = some (.int .i64 s'.spent) ∧ w'.cell? ⟨gc, 6, none⟩ = some (.int .i64 s'.read) ∧ w'.cell? ⟨w.heap.size + 1, 0, none⟩ = some (.slice tA' s'.texts.length tc') ∧ w'.cell? ⟨w.heap.size + 1, 1, none⟩ = some (.slice oA' s'.objs.length oc') ∧ w'.cell? ⟨w.heap.size + 1, 2, none⟩ = some (.slice bA' s'.fibers.length bc') ∧ w'.cell? ⟨w.heap.size + 1, 3, none⟩ = some (.int .i64 s'.cur) ∧ w'.cell? ⟨w.heap.size + 1, 4, none⟩ = some (.int .i64 s'.steps) ∧ w'.cell? ⟨w.heap.size + 1, 5, none⟩ = some (.int .i64 s'.spent) ∧ w'.cell? ⟨w.heap.size + 1, 6, none⟩ = some (.int .i64 s'.read)) (ds := []) #[false, false, false, false, false, false, false, false, false, false, false, false, false, false, false, false, false] (by kernel_rfl) rfl rfl ⟨i_0, i_1, i_2, i_3, i_4, i_5, i_6, s_0, s_1, s_2, s_3, s_4, s_5, s_6, b_0, b_1, b_2, b_3, b_4, b_5, b_6, w_0, w_1, w_2, w_3, w_4, w_5, w_6, c_0, c_1, c_2, c_3, c_4, c_5, c_6, o_0, o_1, o_2, o_3, o_4, o_5, o_6⟩ (fun hHeld => ?_)
  refine take_ (i := 0) (N := some 44) (v := ?_) (a' := ?_) #[true, false, false, false, false, false, false, false, false, false, false, false, false, false, false, false, false] rfl rfl (by kernel_rfl) (fun _ _ _ h => h) (Or.inl ⟨by rfl, ?_⟩) hHeld ?_ ?_
  rotate_left
  · rintro w' ⟨s0, s1, s2, s3, s4, s5, s6, s7, s8, s9, s10, s11, s12, s13, s14, s15, s16, s17, s18, s19, s20, s21, s22, s23, s24, s25, s26, s27, s28, s29, s30, s31, s32, s33, s34, s35, s36, s37, s38, s39, s40, s41⟩
    go_simp
    with_reducible rfl
  rotate_left
  · simp only [Act.put, List.setIfInBounds_toArray, List.set_cons_zero, List.set_cons_succ, i64_w, i32_w]
    rfl
  refine take_ (i := 1) (N := some 45) (v := ?_) (a' := ?_) #[true, true, false, false, false, false, false, false, false, false, false, false, false, false, false, false, false] rfl rfl (by kernel_rfl) (fun _ _ _ h => h) (Or.inl ⟨by rfl, ?_⟩) hHeld ?_ ?_
  rotate_left
  · rintro w' ⟨s0, s1, s2, s3, s4, s5, s6, s7, s8, s9, s10, s11, s12, s13, s14, s15, s16, s17, s18, s19, s20, s21, s22, s23, s24, s25, s26, s27, s28, s29, s30, s31, s32, s33, s34, s35, s36, s37, s38, s39, s40, s41⟩
    go_simp
    with_reducible rfl
  rotate_left
  · simp only [Act.put, List.setIfInBounds_toArray, List.set_cons_zero, List.set_cons_succ, i64_w, i32_w]
    rfl
  refine one_ (i := 2) (N := some 46) #[true, true, true, false, false, false, false, false, false, false, false, false, false, false, false, false, false] rfl rfl (by kernel_rfl) (by decide) (fun K hK => ?_)
  refine goes_ Try.func22 (by kernel_rfl) rfl #[.agg #[.slice A1 s.texts.length Ac1, .slice A2 s.objs.length Ac2, .slice A3 s.fibers.length Ac3, .int .i64 s.cur, .int .i64 s.steps, .int .i64 s.spent, .int .i64 s.read], .agg #[.slice tA s.texts.length tc, .slice oA s.objs.length oc, .slice bA s.fibers.length bc, .int .i64 s.cur, .int .i64 s.steps, .int .i64 s.spent, .int .i64 s.read]] (by rfl) rfl rfl (by simp only [List.map_toArray, List.map_cons, List.map_nil]; rfl) ?_
  with_reducible refine (told_yes (same_State w9.drew A1 A2 A3 tA oA bA Ac1 Ac2 Ac3 tc oc bc s s Aro ros (AZ.map (·.1)) rbs (AZ.map (·.2)) L (hAr.out.below bl) (hVr.out.below bl)) rfl).mono ?_
  rintro e w11 ⟨rfl, hc11⟩
  refine ⟨_, rfl, ?_⟩
  replace hc11 := Aside0.mk hc11
  have k11 : Aside0 (Chg (fun _ => False) w9 w11) := ⟨hwdd.out.trans hc11.out (fun _ _ h => h)⟩
  refine hK.out _ _ ⟨(cell_chg0 i_0 k11.out), (cell_chg0 i_1 k11.out), (cell_chg0 i_2 k11.out), (cell_chg0 i_3 k11.out), (cell_chg0 i_4 k11.out), (cell_chg0 i_5 k11.out), (cell_chg0 i_6 k11.out), (cell_chg0 s_0 k11.out), (cell_chg0 s_1 k11.out), (cell_chg0 s_2 k11.out), (cell_chg0 s_3 k11.out), (cell_chg0 s_4 k11.out), (cell_chg0 s_5 k11.out), (cell_chg0 s_6 k11.out), (cell_chg0 b_0 k11.out), (cell_chg0 b_1 k11.out), (cell_chg0 b_2 k11.out), (cell_chg0 b_3 k11.out), (cell_chg0 b_4 k11.out), (cell_chg0 b_5 k11.out), (cell_chg0 b_6 k11.out), (cell_chg0 w_0 k11.out), (cell_chg0 w_1 k11.out), (cell_chg0 w_2 k11.out), (cell_chg0 w_3 k11.out), (cell_chg0 w_4 k11.out), (cell_chg0 w_5 k11.out), (cell_chg0 w_6 k11.out), (cell_chg0 c_0 k11.out), (cell_chg0 c_1 k11.out), (cell_chg0 c_2 k11.out), (cell_chg0 c_3 k11.out), (cell_chg0 c_4 k11.out), (cell_chg0 c_5 k11.out), (cell_chg0 c_6 k11.out), (cell_chg0 o_0 k11.out), (cell_chg0 o_1 k11.out), (cell_chg0 o_2 k11.out), (cell_chg0 o_3 k11.out), (cell_chg0 o_4 k11.out), (cell_chg0 o_5 k11.out), (cell_chg0 o_6 k11.out)⟩ (fun hHeld => ?_)
  clear hK K
  refine norm_ (a' := ?_) ?_ ?_
  rotate_left
  · show Act.put _ (some 46) _ = _
    simp only [Act.put, List.setIfInBounds_toArray, List.set_cons_zero, List.set_cons_succ, i64_w, i32_w]
    rfl
  refine pure_ (i := 3) (N := some 47) (v := ?_) (a' := ?_) #[true, true, true, true, false, false, false, false, false, false, false, false, false, false, false, false, false] rfl rfl (by kernel_rfl) (fun _ _ _ h => h) (Or.inl ⟨by rfl, ?_⟩) ?_ ?_
  rotate_left
  · intro w'
    go_simp
    with_reducible rfl
  rotate_left
  · simp only [Act.put, List.setIfInBounds_toArray, List.set_cons_zero, List.set_cons_succ, i64_w, i32_w]
    rfl
  refine pure_ (i := 4) (N := some 48) (v := ?_) (a' := ?_) #[true, true, true, true, true, false, false, false, false, false, false, false, false, false, false, false, false] rfl rfl (by kernel_rfl) (fun _ _ _ h => h) (Or.inl ⟨by rfl, ?_⟩) ?_ ?_
  rotate_left
  · intro w'
    go_simp
    with_reducible rfl
  rotate_left
  · simp only [Act.put, List.setIfInBounds_toArray, List.set_cons_zero, List.set_cons_succ, i64_w, i32_w]
    rfl
  refine take_ (i := 5) (N := some 49) (v := ?_) (a' := ?_) #[true, true, true, true, true, true, false, false, false, false, false, false, false, false, false, false, false] rfl rfl (by kernel_rfl) (fun _ _ _ h => h) (Or.inl ⟨by rfl, ?_⟩) hHeld ?_ ?_
  rotate_left
  · rintro w' ⟨s0, s1, s2, s3, s4, s5, s6, s7, s8, s9, s10, s11, s12, s13, s14, s15, s16, s17, s18, s19, s20, s21, s22, s23, s24, s25, s26, s27, s28, s29, s30, s31, s32, s33, s34, s35, s36, s37, s38, s39, s40, s41⟩
    go_simp
    with_reducible rfl
  rotate_left
  · simp only [Act.put, List.setIfInBounds_toArray, List.set_cons_zero, List.set_cons_succ, i64_w, i32_w]
    rfl
  refine take_ (i := 6) (N := some 50) (v := ?_) (a' := ?_) #[true, true, true, true, true, true, true, false, false, false, false, false, false, false, false, false, false] rfl rfl (by kernel_rfl) (fun _ _ _ h => h) (Or.inl ⟨by rfl, ?_⟩) hHeld ?_ ?_
  rotate_left
  · rintro w' ⟨s0, s1, s2, s3, s4, s5, s6, s7, s8, s9, s10, s11, s12, s13, s14, s15, s16, s17, s18, s19, s20, s21, s22, s23, s24, s25, s26, s27, s28, s29, s30, s31, s32, s33, s34, s35, s36, s37, s38, s39, s40, s41⟩
    go_simp
    with_reducible rfl
  rotate_left
  · simp only [Act.put, List.setIfInBounds_toArray, List.set_cons_zero, List.set_cons_succ, i64_w, i32_w]
    rfl
  refine one_ (i := 7) (N := some 51) #[true, true, true, true, true, true, true, true, false, false, false, false, false, false, false, false, false] rfl rfl (by kernel_rfl) (by decide) (fun K hK => ?_)
  refine goes_ Try.func22 (by kernel_rfl) rfl #[.agg #[.slice E1 (CanonQ s).texts.length Ec1, .slice E2 (CanonQ s).objs.length Ec2, .slice E3 (CanonQ s).fibers.length Ec3, .int .i64 s.cur, .int .i64 s.steps, .int .i64 s.spent, .int .i64 s.read], .agg #[.slice P1 (CanonQ s).texts.length Pc1, .slice P2 (CanonQ s).objs.length Pc2, .slice P3 (CanonQ s).fibers.length Pc3, .int .i64 s.cur, .int .i64 s.steps, .int .i64 s.spent, .int .i64 s.read]] (by rfl) rfl rfl (by simp only [List.map_toArray, List.map_cons, List.map_nil]; rfl) ?_
  with_reducible refine (told_yes (same_StateD w11 E1 E2 E3 P1 P2 P3 Ec1 Ec2 Ec3 Pc1 Pc2 Pc3 s s Ero Pro (EZ.map (·.1)) (PZ.map (·.1)) (EZ.map (·.2)) (PZ.map (·.2)) (hEr.out.below bl) (hWr.out.below bl)) rfl).mono ?_
  rintro e w12 ⟨rfl, hc12⟩
  refine ⟨_, rfl, ?_⟩
  replace hc12 := Aside0.mk hc12
  have k12 := Aside0.mk (k11.out.trans hc12.out (fun _ _ h => h))
  refine hK.out _ _ ⟨(cell_chg0 i_0 k12.out), (cell_chg0 i_1 k12.out), (cell_chg0 i_2 k12.out), (cell_chg0 i_3 k12.out), (cell_chg0 i_4 k12.out), (cell_chg0 i_5 k12.out), (cell_chg0 i_6 k12.out), (cell_chg0 s_0 k12.out), (cell_chg0 s_1 k12.out), (cell_chg0 s_2 k12.out), (cell_chg0 s_3 k12.out), (cell_chg0 s_4 k12.out), (cell_chg0 s_5 k12.out), (cell_chg0 s_6 k12.out), (cell_chg0 b_0 k12.out), (cell_chg0 b_1 k12.out), (cell_chg0 b_2 k12.out), (cell_chg0 b_3 k12.out), (cell_chg0 b_4 k12.out), (cell_chg0 b_5 k12.out), (cell_chg0 b_6 k12.out), (cell_chg0 w_0 k12.out), (cell_chg0 w_1 k12.out), (cell_chg0 w_2 k12.out), (cell_chg0 w_3 k12.out), (cell_chg0 w_4 k12.out), (cell_chg0 w_5 k12.out), (cell_chg0 w_6 k12.out), (cell_chg0 c_0 k12.out), (cell_chg0 c_1 k12.out), (cell_chg0 c_2 k12.out), (cell_chg0 c_3 k12.out), (cell_chg0 c_4 k12.out), (cell_chg0 c_5 k12.out), (cell_chg0 c_6 k12.out), (cell_chg0 o_0 k12.out), (cell_chg0 o_1 k12.out), (cell_chg0 o_2 k12.out), (cell_chg0 o_3 k12.out), (cell_chg0 o_4 k12.out), (cell_chg0 o_5 k12.out), (cell_chg0 o_6 k12.out)⟩ (fun hHeld => ?_)
  clear hK K
  refine norm_ (a' := ?_) ?_ ?_
  rotate_left
  · show Act.put _ (some 51) _ = _
    simp only [Act.put, List.setIfInBounds_toArray, List.set_cons_zero, List.set_cons_succ, i64_w, i32_w]
    rfl
  refine pure_ (i := 8) (N := some 52) (v := ?_) (a' := ?_) #[true, true, true, true, true, true, true, true, true, false, false, false, false, false, false, false, false] rfl rfl (by kernel_rfl) (fun _ _ _ h => h) (Or.inl ⟨by rfl, ?_⟩) ?_ ?_
  rotate_left
  · intro w'
    go_simp
    with_reducible rfl
  rotate_left
  · simp only [Act.put, List.setIfInBounds_toArray, List.set_cons_zero, List.set_cons_succ, i64_w, i32_w]
    rfl
  refine pure_ (i := 9) (N := some 53) (v := ?_) (a' := ?_) #[true, true, true, true, true, true, true, true, true, true, false, false, false, false, false, false, false] rfl rfl (by kernel_rfl) (fun _ _ _ h => h) (Or.inl ⟨by rfl, ?_⟩) ?_ ?_
  rotate_left
  · intro w'
    go_simp
    with_reducible rfl
  rotate_left
  · simp only [Act.put, List.setIfInBounds_toArray, List.set_cons_zero, List.set_cons_succ, i64_w, i32_w]
    rfl
  refine pure_ (i := 10) (N := some 54) (v := ?_) (a' := ?_) #[true, true, true, true, true, true, true, true, true, true, true, false, false, false, false, false, false] rfl rfl (by kernel_rfl) (fun _ _ _ h => h) (Or.inl ⟨by rfl, ?_⟩) ?_ ?_
  rotate_left
  · intro w'
    go_simp
    with_reducible rfl
  rotate_left
  · simp only [Act.put, List.setIfInBounds_toArray, List.set_cons_zero, List.set_cons_succ, i64_w, i32_w]
    rfl
  refine take_ (i := 11) (N := some 55) (v := ?_) (a' := ?_) #[true, true, true, true, true, true, true, true, true, true, true, true, false, false, false, false, false] rfl rfl (by kernel_rfl) (fun _ _ _ h => h) (Or.inl ⟨by rfl, ?_⟩) hHeld ?_ ?_
  rotate_left
  · rintro w' ⟨s0, s1, s2, s3, s4, s5, s6, s7, s8, s9, s10, s11, s12, s13, s14, s15, s16, s17, s18, s19, s20, s21, s22, s23, s24, s25, s26, s27, s28, s29, s30, s31, s32, s33, s34, s35, s36, s37, s38, s39, s40, s41⟩
    go_simp
    with_reducible rfl
  rotate_left
  · simp only [Act.put, List.setIfInBounds_toArray, List.set_cons_zero, List.set_cons_succ, i64_w, i32_w]
    rfl
  refine take_ (i := 12) (N := some 56) (v := ?_) (a' := ?_) #[true, true, true, true, true, true, true, true, true, true, true, true, true, false, false, false, false] rfl rfl (by kernel_rfl) (fun _ _ _ h => h) (Or.inl ⟨by rfl, ?_⟩) hHeld ?_ ?_
  rotate_left
  · rintro w' ⟨s0, s1, s2, s3, s4, s5, s6, s7, s8, s9, s10, s11, s12, s13, s14, s15, s16, s17, s18, s19, s20, s21, s22, s23, s24, s25, s26, s27, s28, s29, s30, s31, s32, s33, s34, s35, s36, s37, s38, s39, s40, s41⟩
    go_simp
    with_reducible rfl
  rotate_left
  · simp only [Act.put, List.setIfInBounds_toArray, List.set_cons_zero, List.set_cons_succ, i64_w, i32_w]
    rfl
  refine one_ (i := 13) (N := some 57) #[true, true, true, true, true, true, true, true, true, true, true, true, true, true, false, false, false] rfl rfl (by kernel_rfl) (by decide) (fun K hK => ?_)
  refine goes_ Try.func20 (by kernel_rfl) rfl #[.agg #[.slice tA' s'.texts.length tc', .slice oA' s'.objs.length oc', .slice bA' s'.fibers.length bc', .int .i64 s'.cur, .int .i64 s'.steps, .int .i64 s'.spent, .int .i64 s'.read]] (by rfl) rfl rfl (by simp only [List.map_toArray, List.map_cons, List.map_nil]; rfl) ?_
  with_reducible refine (ref_Canon w12 tA' oA' bA' tc' oc' bc' s' ros' rbs' L' (hV2r.out.below bl) hS2.out hD2.out).mono ?_
  rintro e w13 ⟨⟨T1, Tn1, Tc1⟩, ⟨T2, Tn2, Tc2⟩, ⟨T3, Tn3, Tc3⟩, Tro, TZ, rfl, hO13, hc13⟩
  obtain rfl : Tn1 = (CanonQ s').texts.length := (hO13.t.len).1
  obtain rfl : Tn2 = (CanonQ s').objs.length := (hO13.o.len).1.trans hO13.oc.1
  obtain rfl : Tn3 = (CanonQ s').fibers.length := (hO13.b.len).1.trans (by rw [List.length_map]; exact hO13.bc.1)
  refine ⟨.agg #[.slice T1 (CanonQ s').texts.length Tc1, .slice T2 (CanonQ s').objs.length Tc2, .slice T3 (CanonQ s').fibers.length Tc3, .int .i64 s'.cur, .int .i64 s'.steps, .int .i64 s'.spent, .int .i64 s'.read], rfl, ?_⟩
  replace hc13 := Aside0.mk hc13
  have hTv := Aside0.mk hO13.view
  simp only at hTv
  have k13 := Aside0.mk (k12.out.trans hc13.out (fun _ _ h => h))
  refine hK.out _ _ ⟨(cell_chg0 i_0 k13.out), (cell_chg0 i_1 k13.out), (cell_chg0 i_2 k13.out), (cell_chg0 i_3 k13.out), (cell_chg0 i_4 k13.out), (cell_chg0 i_5 k13.out), (cell_chg0 i_6 k13.out), (cell_chg0 s_0 k13.out), (cell_chg0 s_1 k13.out), (cell_chg0 s_2 k13.out), (cell_chg0 s_3 k13.out), (cell_chg0 s_4 k13.out), (cell_chg0 s_5 k13.out), (cell_chg0 s_6 k13.out), (cell_chg0 b_0 k13.out), (cell_chg0 b_1 k13.out), (cell_chg0 b_2 k13.out), (cell_chg0 b_3 k13.out), (cell_chg0 b_4 k13.out), (cell_chg0 b_5 k13.out), (cell_chg0 b_6 k13.out), (cell_chg0 w_0 k13.out), (cell_chg0 w_1 k13.out), (cell_chg0 w_2 k13.out), (cell_chg0 w_3 k13.out), (cell_chg0 w_4 k13.out), (cell_chg0 w_5 k13.out), (cell_chg0 w_6 k13.out), (cell_chg0 c_0 k13.out), (cell_chg0 c_1 k13.out), (cell_chg0 c_2 k13.out), (cell_chg0 c_3 k13.out), (cell_chg0 c_4 k13.out), (cell_chg0 c_5 k13.out), (cell_chg0 c_6 k13.out), (cell_chg0 o_0 k13.out), (cell_chg0 o_1 k13.out), (cell_chg0 o_2 k13.out), (cell_chg0 o_3 k13.out), (cell_chg0 o_4 k13.out), (cell_chg0 o_5 k13.out), (cell_chg0 o_6 k13.out)⟩ (fun hHeld => ?_)
  clear hK K
  refine norm_ (a' := ?_) ?_ ?_
  rotate_left
  · show Act.put _ (some 57) _ = _
    simp only [Act.put, List.setIfInBounds_toArray, List.set_cons_zero, List.set_cons_succ, i64_w, i32_w]
    rfl
  refine one_ (i := 14) (N := some 58) #[true, true, true, true, true, true, true, true, true, true, true, true, true, true, true, false, false] rfl rfl (by kernel_rfl) (by decide) (fun K hK => ?_)
  refine goes_ Try.func22 (by kernel_rfl) rfl #[.agg #[.slice H1 (CanonQ s').texts.length Hc1, .slice H2 (CanonQ s').objs.length Hc2, .slice H3 (CanonQ s').fibers.length Hc3, .int .i64 s'.cur, .int .i64 s'.steps, .int .i64 s'.spent, .int .i64 s'.read], .agg #[.slice T1 (CanonQ s').texts.length Tc1, .slice T2 (CanonQ s').objs.length Tc2, .slice T3 (CanonQ s').fibers.length Tc3, .int .i64 s'.cur, .int .i64 s'.steps, .int .i64 s'.spent, .int .i64 s'.read]] (by rfl) rfl rfl (by simp only [List.map_toArray, List.map_cons, List.map_nil]; rfl) ?_
  with_reducible refine (told_yes (same_StateD w13 H1 H2 H3 T1 T2 T3 Hc1 Hc2 Hc3 Tc1 Tc2 Tc3 s' s' Hro Tro (HZ.map (·.1)) (TZ.map (·.1)) (HZ.map (·.2)) (TZ.map (·.2)) (hHr.out.below bl) (hTv.out.below bl)) rfl).mono ?_
  rintro e w14 ⟨rfl, hc14⟩
  refine ⟨_, rfl, ?_⟩
  replace hc14 := Aside0.mk hc14
  have k14 := Aside0.mk (k13.out.trans hc14.out (fun _ _ h => h))
  refine hK.out _ _ ⟨(cell_chg0 i_0 k14.out), (cell_chg0 i_1 k14.out), (cell_chg0 i_2 k14.out), (cell_chg0 i_3 k14.out), (cell_chg0 i_4 k14.out), (cell_chg0 i_5 k14.out), (cell_chg0 i_6 k14.out), (cell_chg0 s_0 k14.out), (cell_chg0 s_1 k14.out), (cell_chg0 s_2 k14.out), (cell_chg0 s_3 k14.out), (cell_chg0 s_4 k14.out), (cell_chg0 s_5 k14.out), (cell_chg0 s_6 k14.out), (cell_chg0 b_0 k14.out), (cell_chg0 b_1 k14.out), (cell_chg0 b_2 k14.out), (cell_chg0 b_3 k14.out), (cell_chg0 b_4 k14.out), (cell_chg0 b_5 k14.out), (cell_chg0 b_6 k14.out), (cell_chg0 w_0 k14.out), (cell_chg0 w_1 k14.out), (cell_chg0 w_2 k14.out), (cell_chg0 w_3 k14.out), (cell_chg0 w_4 k14.out), (cell_chg0 w_5 k14.out), (cell_chg0 w_6 k14.out), (cell_chg0 c_0 k14.out), (cell_chg0 c_1 k14.out), (cell_chg0 c_2 k14.out), (cell_chg0 c_3 k14.out), (cell_chg0 c_4 k14.out), (cell_chg0 c_5 k14.out), (cell_chg0 c_6 k14.out), (cell_chg0 o_0 k14.out), (cell_chg0 o_1 k14.out), (cell_chg0 o_2 k14.out), (cell_chg0 o_3 k14.out), (cell_chg0 o_4 k14.out), (cell_chg0 o_5 k14.out), (cell_chg0 o_6 k14.out)⟩ (fun hHeld => ?_)
  clear hK K
  refine norm_ (a' := ?_) ?_ ?_
  rotate_left
  · show Act.put _ (some 58) _ = _
    simp only [Act.put, List.setIfInBounds_toArray, List.set_cons_zero, List.set_cons_succ, i64_w, i32_w]
    rfl
  refine pure_ (i := 15) (N := some 59) (v := ?_) (a' := ?_) #[true, true, true, true, true, true, true, true, true, true, true, true, true, true, true, true, false] rfl rfl (by kernel_rfl) (fun _ _ _ h => h) (Or.inl ⟨by rfl, ?_⟩) ?_ ?_
  rotate_left
  · intro w'
    go_simp
    with_reducible rfl
  rotate_left
  · simp only [Act.put, List.setIfInBounds_toArray, List.set_cons_zero, List.set_cons_succ, i64_w, i32_w]
    rfl
  refine pure_ (i := 16) (N := some 60) (v := ?_) (a' := ?_) #[true, true, true, true, true, true, true, true, true, true, true, true, true, true, true, true, true] rfl rfl (by kernel_rfl) (fun _ _ _ h => h) (Or.inl ⟨by rfl, ?_⟩) ?_ ?_
  rotate_left
  · intro w'
    go_simp
    with_reducible rfl
  rotate_left
  · simp only [Act.put, List.setIfInBounds_toArray, List.set_cons_zero, List.set_cons_succ, i64_w, i32_w]
    rfl
  refine done_ (by kernel_rfl) ?_
  clear i_0 i_1 i_2 i_3 i_4 i_5 i_6 s_0 s_1 s_2 s_3 s_4 s_5 s_6 b_0 b_1 b_2 b_3 b_4 b_5 b_6 w_0 w_1 w_2 w_3 w_4 w_5 w_6 c_0 c_1 c_2 c_3 c_4 c_5 c_6 o_0 o_1 o_2 o_3 o_4 o_5 o_6
  have hRa := Aside0.mk (hRa9.out.chg k14.out (fun _ h => h.elim))
  have hRb := Aside0.mk (hRb9.out.chg k14.out (fun _ h => h.elim))
  have hRc := Aside0.mk (hRc9.out.chg k14.out (fun _ h => h.elim))
  have hVr2 := Aside0.mk (hVr.out.below (k14.out.below (fun _ _ h => h)))
  have hWr2 := Aside0.mk (hWr.out.below (k14.out.below (fun _ _ h => h)))
  have uS : Aside0 (w14.heap[w.heap.size]? = some (.cells #[.slice tA s.texts.length tc, .slice oA s.objs.length oc, .slice bA s.fibers.length bc, .int .i64 s.cur, .int .i64 s.steps, .int .i64 s.spent, .int .i64 s.read] 40)) := ⟨k14.out.blk qqs.out (fun h => h)⟩
  have uW : Aside0 (w14.heap[gw]? = some (.cells #[.slice P1 (CanonQ s).texts.length Pc1, .slice P2 (CanonQ s).objs.length Pc2, .slice P3 (CanonQ s).fibers.length Pc3, .int .i64 s.cur, .int .i64 s.steps, .int .i64 s.spent, .int .i64 s.read] 40)) := ⟨k14.out.blk qqw.out (fun h => h)⟩
  have ua : Aside0 (w14.heap[ga]? = some (.cells #[.slice Q1 (CanonQ s).texts.length Qc1, .slice Q2 (CanonQ s).objs.length Qc2, .slice Q3 (CanonQ s).fibers.length Qc3, .int .i64 s.cur, .int .i64 s.steps, .int .i64 s.spent, .int .i64 s.read] 40)) := ⟨k14.out.blk qqa.out (fun h => h)⟩
  have a_0 : w14.cell? ⟨ga, 0, none⟩ = some (.slice Q1 (CanonQ s).texts.length Qc1) := blk_cell ua.out 0
  have a_1 : w14.cell? ⟨ga, 1, none⟩ = some (.slice Q2 (CanonQ s).objs.length Qc2) := blk_cell ua.out 1
  have a_2 : w14.cell? ⟨ga, 2, none⟩ = some (.slice Q3 (CanonQ s).fibers.length Qc3) := blk_cell ua.out 2
  have a_3 : w14.cell? ⟨ga, 3, none⟩ = some (.int .i64 s.cur) := blk_cell ua.out 3
  have a_4 : w14.cell? ⟨ga, 4, none⟩ = some (.int .i64 s.steps) := blk_cell ua.out 4
  have a_5 : w14.cell? ⟨ga, 5, none⟩ = some (.int .i64 s.spent) := blk_cell ua.out 5
  have a_6 : w14.cell? ⟨ga, 6, none⟩ = some (.int .i64 s.read) := blk_cell ua.out 6
  have ub : Aside0 (w14.heap[gb]? = some (.cells #[.slice E1 (CanonQ s).texts.length Ec1, .slice E2 (CanonQ s).objs.length Ec2, .slice E3 (CanonQ s).fibers.length Ec3, .int .i64 s.cur, .int .i64 s.steps, .int .i64 s.spent, .int .i64 s.read] 40)) := ⟨k14.out.blk qqb.out (fun h => h)⟩
  have b_0 : w14.cell? ⟨gb, 0, none⟩ = some (.slice E1 (CanonQ s).texts.length Ec1) := blk_cell ub.out 0
  have b_1 : w14.cell? ⟨gb, 1, none⟩ = some (.slice E2 (CanonQ s).objs.length Ec2) := blk_cell ub.out 1
  have b_2 : w14.cell? ⟨gb, 2, none⟩ = some (.slice E3 (CanonQ s).fibers.length Ec3) := blk_cell ub.out 2
  have b_3 : w14.cell? ⟨gb, 3, none⟩ = some (.int .i64 s.cur) := blk_cell ub.out 3
  have b_4 : w14.cell? ⟨gb, 4, none⟩ = some (.int .i64 s.steps) := blk_cell ub.out 4
  have b_5 : w14.cell? ⟨gb, 5, none⟩ = some (.int .i64 s.spent) := blk_cell ub.out 5
  have b_6 : w14.cell? ⟨gb, 6, none⟩ = some (.int .i64 s.read) := blk_cell ub.out 6
  have uc : Aside0 (w14.heap[gc]? = some (.cells #[.slice H1 (CanonQ s').texts.length Hc1, .slice H2 (CanonQ s').objs.length Hc2, .slice H3 (CanonQ s').fibers.length Hc3, .int .i64 s'.cur, .int .i64 s'.steps, .int .i64 s'.spent, .int .i64 s'.read] 40)) := ⟨k14.out.blk qqc.out (fun h => h)⟩
  have c_0 : w14.cell? ⟨gc, 0, none⟩ = some (.slice H1 (CanonQ s').texts.length Hc1) := blk_cell uc.out 0
  have c_1 : w14.cell? ⟨gc, 1, none⟩ = some (.slice H2 (CanonQ s').objs.length Hc2) := blk_cell uc.out 1
  have c_2 : w14.cell? ⟨gc, 2, none⟩ = some (.slice H3 (CanonQ s').fibers.length Hc3) := blk_cell uc.out 2
  have c_3 : w14.cell? ⟨gc, 3, none⟩ = some (.int .i64 s'.cur) := blk_cell uc.out 3
  have c_4 : w14.cell? ⟨gc, 4, none⟩ = some (.int .i64 s'.steps) := blk_cell uc.out 4
  have c_5 : w14.cell? ⟨gc, 5, none⟩ = some (.int .i64 s'.spent) := blk_cell uc.out 5
  have c_6 : w14.cell? ⟨gc, 6, none⟩ = some (.int .i64 s'.read) := blk_cell uc.out 6
  have h014 : Aside0 (Chg (fun _ => False) w w14) := ⟨h09.out.trans k14.out (fun _ _ h => h)⟩
  clear hRa9 hRb9 hRc9 hVr hV2r hWr hAr hEr hHr hTv hO13 qqi qqs qqb qqw qqc qqo qqa
  go_upto_region 17 with (fail)
  (try simp only [Act.put, List.setIfInBounds_toArray, List.set_cons_zero, List.set_cons_succ])
  go_wp2
  clear a_0 a_1 a_2 a_3 a_4 a_5 a_6 b_0 b_1 b_2 b_3 b_4 b_5 b_6 c_0 c_1 c_2 c_3 c_4 c_5 c_6
  generalize hWB : World.alloc w14 _ = WB
  obtain ⟨gl, hgl⟩ : ∃ g, g = w14.heap.size := ⟨_, rfl⟩
  rw [← hgl]
  have hPk := pack3 hRa.out hRb.out hRc.out hc3.out.size (by have h := hsz.out; omega) hc4.out.size (by have h := hsz.out; omega) hc6.out.size
  obtain ⟨st, hst⟩ : ∃ st, st = [(⟨(Q1, (CanonQ s).texts.length, Qc1), (Q2, (CanonQ s).objs.length, Qc2), (Q3, (CanonQ s).fibers.length, Qc3), ro9, zs9, s.cur, s.steps, s.spent, s.read⟩ : Ans), ⟨(E1, (CanonQ s).texts.length, Ec1), (E2, (CanonQ s).objs.length, Ec2), (E3, (CanonQ s).fibers.length, Ec3), Ero, EZ.map (fun z => (z.1.frames, z.2)), s.cur, s.steps, s.spent, s.read⟩, ⟨(H1, (CanonQ s').texts.length, Hc1), (H2, (CanonQ s').objs.length, Hc2), (H3, (CanonQ s').fibers.length, Hc3), Hro, HZ.map (fun z => (z.1.frames, z.2)), s'.cur, s'.steps, s'.spent, s'.read⟩] := ⟨_, rfl⟩
  have hlit : Aside0 (∀ (W : World) (j : Nat) (x : Ans), Chg (fun _ => False) WB W → st[j]? = some x → W.cell? ⟨gl, j * 7, none⟩ = some (.slice x.v1.1 x.v1.2.1 x.v1.2.2) ∧ W.cell? ⟨gl, j * 7 + 1, none⟩ = some (.slice x.v2.1 x.v2.2.1 x.v2.2.2) ∧ W.cell? ⟨gl, j * 7 + 2, none⟩ = some (.slice x.v3.1 x.v3.2.1 x.v3.2.2) ∧ W.cell? ⟨gl, j * 7 + 3, none⟩ = some (.int .i64 x.cu) ∧ W.cell? ⟨gl, j * 7 + 4, none⟩ = some (.int .i64 x.st) ∧ W.cell? ⟨gl, j * 7 + 5, none⟩ = some (.int .i64 x.sp) ∧ W.cell? ⟨gl, j * 7 + 6, none⟩ = some (.int .i64 x.rd)) := ⟨fun W j x hc hx => by
    rw [hst] at hx
    exact lit_at (hc.blk (by rw [hgl, ← hWB]; exact heap_alloc_new w14 _) (fun h => h)) hx⟩
  rw [← hst] at hPk
  have hzB : Aside0 (Chg (fun _ => False) w14 WB) := ⟨by rw [← hWB]; exact cg⟩
  have hPkA : Aside0 (Pack WB W2.heap.size st) := ⟨⟨fun x hx => by obtain ⟨l, h, h1, h2⟩ := hPk.x x hx; exact ⟨l, h, h1, h2.chg hzB.out (fun _ h => h.elim)⟩, hPk.ta, hPk.oa, hPk.ba, hPk.va, hPk.ka, hPk.fa⟩⟩
  have hs3 : Aside0 (st.length = 3) := ⟨by rw [hst]; rfl⟩
  have hloA : Aside0 (W2.heap.size ≤ w14.heap.size) := ⟨by have h1 := hsz.out; have h2 := hz68.out.size; have h3 := hc9.out.size; have h4 := k14.out.size; omega⟩
  clear hPk hWB hgl hst hRa hRb hRc ua ub uc
  go_loopw [10, 11, 12, 13, 14, 15, 66] (fun v10 v11 v12 v13 v14 v15 i66 wr => ∃ (j : Nat) (gt go gs gf gb gr : SV), v10 = .slice gt.1 gt.2.1 gt.2.2 ∧ v11 = .slice go.1 go.2.1 go.2.2 ∧ v12 = .slice gs.1 gs.2.1 gs.2.2 ∧ v13 = .slice gf.1 gf.2.1 gf.2.2 ∧ v14 = .slice gb.1 gb.2.1 gb.2.2 ∧ v15 = .slice gr.1 gr.2.1 gr.2.2 ∧ i66 = .int .i64 j ∧ j ≤ 3 ∧ Aside0 (Six WB.heap.size wr gt go gs gf gb gr ((st.take j).map (·.v1)) (rosA (st.take j)) (slotsV (zsA (st.take j))) ((zsA (st.take j)).map (·.1)) ((st.take j).map (·.v3)) ((st.take j).map (·.v2))) ∧ Aside0 (Chg (fun _ => False) WB wr)) (fun _ _ _ _ _ _ i66 _ => 3 - (intOf i66).toNat)
  case atStart => exact ⟨0, (none, 0, 0), (none, 0, 0), (none, 0, 0), (none, 0, 0), (none, 0, 0), (none, 0, 0), rfl, rfl, rfl, rfl, rfl, rfl, rfl, by omega, ⟨six_nil⟩, ⟨Chg.refl _ _⟩⟩
  case round =>
    obtain ⟨j, gt, go, gs, gf, gb, gr, rfl, rfl, rfl, rfl, rfl, rfl, rfl, hj, h6, hCh⟩ := hrel
    by_cases hj3 : j < 3
    · skip
      have hj0 : (0 : Int) ≤ j := by omega
      have hj1 : (j : Int) < 3 := by omega
      obtain ⟨x, hx⟩ : ∃ x, st[j]? = some x := ⟨_, List.getElem?_eq_getElem (by have h := hs3.out; omega)⟩
      obtain ⟨lo1, hi1, _, hxr⟩ := hPkA.out.x x (List.mem_of_getElem? hx)
      have hroom := Aside0.mk (hPkA.out.room hs3.out hx)
      obtain ⟨y0, y1, y2, y3, y4, y5, y6⟩ := hlit.out wr j x hCh.out hx
      have hxA := Aside0.mk hx
      replace hxr := Aside0.mk hxr
      obtain ⟨⟨X1, xn1, xc1⟩, ⟨X2, xn2, xc2⟩, ⟨X3, xn3, xc3⟩, xro, xzs, xcu, xst, xsp, xrd⟩ := x
      simp only at y0 y1 y2 y3 y4 y5 y6 hroom
      clear hx
      have hjl : Aside0 ((st.take j).length ≤ 3) := ⟨by rw [List.length_take]; omega⟩
      go_upto_region 20 with (fail)
      (try simp only [Act.put, List.setIfInBounds_toArray, List.set_cons_zero, List.set_cons_succ])
      clear y0 y1 y2 y3 y4 y5 y6
      generalize hWx : World.alloc wr _ = Wx
      obtain ⟨gx, hgx⟩ : ∃ g, g = wr.heap.size := ⟨_, rfl⟩
      rw [← hgx]
      have bX : Aside0 (Wx.heap[gx]? = some (.cells #[.slice X1 xn1 xc1, .slice X2 xn2 xc2, .slice X3 xn3 xc3, .int .i64 xcu, .int .i64 xst, .int .i64 xsp, .int .i64 xrd] 40)) := ⟨by rw [hgx, ← hWx]; exact heap_alloc_new wr _⟩
      have hzx : Aside0 (Chg (fun _ => False) wr Wx) := ⟨by rw [← hWx]; exact cg⟩
      clear hWx hgx
      replace h6 := Aside0.mk (h6.out.new hzx.out)
      replace hCh := Aside0.mk (hCh.out.trans hzx.out (fun _ _ h => h))
      clear hzx
      have x0 : Wx.cell? ⟨gx, 0, none⟩ = some (.slice X1 xn1 xc1) := blk_cell bX.out 0
      have hO := h6.out.t.O
      have hRef := Aside0.mk (Chg.refl (fun b => (slv gt).ownBlock = some b) Wx)
      have hl : Aside0 ((((st.take j).map (·.v1)).length + 1) * 24 ≤ 140737488355328) := ⟨by rw [List.length_map]; have h := hjl.out; omega⟩
      go_upto_region 21 with (at_builtin; go_must (refine app1 kSl rfl (.tmp 70) (.tmp 73) rfl Try.underlying62 infoApartTextsL rfl (by decide) (by decide) (X1, xn1, xc1) rfl rfl (kSl_M _ _ _) hO hRef hl ?_); go_must (intro v1 wa hr1 hc1); go_must (obtain ⟨T1, T2, T3, rfl⟩ := R_sl hr1.out))
      (try simp only [Act.put, List.setIfInBounds_toArray, List.set_cons_zero, List.set_cons_succ])
      have hz1 := Lst.app h6.out.t hCh.out.size rfl hr1.out
      replace bX := Aside0.mk (h6.out.t.blk hc1.out bX.out (by decide))
      replace hCh := Aside0.mk (Lst.ch h6.out.t hCh.out hc1.out)
      replace h6 := Aside0.mk (h6.out.setT hz1 hc1.out)
      clear hz1 hr1 hc1 hO hRef hl
      clear x0
      have x1 : wa.cell? ⟨gx, 1, none⟩ = some (.slice X2 xn2 xc2) := blk_cell bX.out 1
      have hO := h6.out.o.O
      have hRef := Aside0.mk (Chg.refl (fun b => (slv go).ownBlock = some b) wa)
      have hro := Aside0.mk (hxr.out.o.2.chg hCh.out (fun _ _ h => h)).toC
      have hxl : Aside0 (xn2 = xro.length) := ⟨hxr.out.o.2.len⟩
      have hl : Aside0 (((rosA (st.take j)).length + xn2) * 80 ≤ 140737488355328) := ⟨by have h := hroom.out.1; have h2 := hxl.out; omega⟩
      go_upto_region 22 with (at_builtin; go_must (refine appN kRO rfl (.tmp 75) (.tmp 77) rfl Try.underlying37 infoRO rfl (by decide) (by decide) rfl rfl hO hro (fun x cs h => by rw [(kRO_K _ _ _).1 h]; exact kRO_M _ _ _ _) hRef hl ?_); go_must (intro v1 wb hr1 hc1); go_must (obtain ⟨O1, O2, O3, rfl⟩ := R_sl hr1.out))
      (try simp only [Act.put, List.setIfInBounds_toArray, List.set_cons_zero, List.set_cons_succ])
      have hz1 := Lst.app h6.out.o hCh.out.size rfl hr1.out
      replace bX := Aside0.mk (h6.out.o.blk hc1.out bX.out (by decide))
      replace hCh := Aside0.mk (Lst.ch h6.out.o hCh.out hc1.out)
      replace h6 := Aside0.mk (h6.out.setO hz1 hc1.out)
      clear hz1 hr1 hc1 hO hRef hl hro x1
      have x2 : wb.cell? ⟨gx, 2, none⟩ = some (.slice X3 xn3 xc3) := blk_cell bX.out 2
      have hO := h6.out.b.O
      have hRef := Aside0.mk (Chg.refl (fun b => (slv gb).ownBlock = some b) wb)
      have hl : Aside0 ((((st.take j).map (·.v3)).length + 1) * 24 ≤ 140737488355328) := ⟨by rw [List.length_map]; have h := hjl.out; omega⟩
      go_upto_region 23 with (at_builtin; go_must (refine app1 kSl rfl (.tmp 79) (.tmp 82) rfl Try.underlying64 infoApartFibersL rfl (by decide) (by decide) (X3, xn3, xc3) rfl rfl (kSl_M _ _ _) hO hRef hl ?_); go_must (intro v1 wc hr1 hc1); go_must (obtain ⟨B1, B2, B3, rfl⟩ := R_sl hr1.out))
      (try simp only [Act.put, List.setIfInBounds_toArray, List.set_cons_zero, List.set_cons_succ])
      have hz1 := Lst.app h6.out.b hCh.out.size rfl hr1.out
      replace bX := Aside0.mk (h6.out.b.blk hc1.out bX.out (by decide))
      replace hCh := Aside0.mk (Lst.ch h6.out.b hCh.out hc1.out)
      replace h6 := Aside0.mk (h6.out.setB hz1 hc1.out)
      clear hz1 hr1 hc1 hO hRef hl
      clear x2
      have x1 : wc.cell? ⟨gx, 1, none⟩ = some (.slice X2 xn2 xc2) := blk_cell bX.out 1
      have hO := h6.out.r.O
      have hRef := Aside0.mk (Chg.refl (fun b => (slv gr).ownBlock = some b) wc)
      have hl : Aside0 ((((st.take j).map (·.v2)).length + 1) * 24 ≤ 140737488355328) := ⟨by rw [List.length_map]; have h := hjl.out; omega⟩
      go_upto_region 24 with (at_builtin; go_must (refine app1 kSl rfl (.tmp 84) (.tmp 87) rfl Try.underlying65 infoApartRowsL rfl (by decide) (by decide) (X2, xn2, xc2) rfl rfl (kSl_M _ _ _) hO hRef hl ?_); go_must (intro v1 wd hr1 hc1); go_must (obtain ⟨R1, R2, R3, rfl⟩ := R_sl hr1.out))
      (try simp only [Act.put, List.setIfInBounds_toArray, List.set_cons_zero, List.set_cons_succ])
      have hz1 := Lst.app h6.out.r hCh.out.size rfl hr1.out
      replace bX := Aside0.mk (h6.out.r.blk hc1.out bX.out (by decide))
      replace hCh := Aside0.mk (Lst.ch h6.out.r hCh.out hc1.out)
      replace h6 := Aside0.mk (h6.out.setR hz1 hc1.out)
      clear hz1 hr1 hc1 hO hRef hl
      clear x1
      go_wp2
      go_loopw [12, 13, 18] (fun v12 v13 i18 wr => ∃ (k : Nat) (hs hf : SV), v12 = .slice hs.1 hs.2.1 hs.2.2 ∧ v13 = .slice hf.1 hf.2.1 hf.2.2 ∧ i18 = .int .i64 k ∧ k ≤ xn3 ∧ Aside0 (Six WB.heap.size wr (T1, T2, T3) (O1, O2, O3) hs hf (B1, B2, B3) (R1, R2, R3) ((st.take j).map (·.v1) ++ [(X1, xn1, xc1)]) (rosA (st.take j) ++ xro) (slotsV (zsA (st.take j)) ++ slotsV (xzs.take k)) ((zsA (st.take j)).map (·.1) ++ (xzs.take k).map (·.1)) ((st.take j).map (·.v3) ++ [(X3, xn3, xc3)]) ((st.take j).map (·.v2) ++ [(X2, xn2, xc2)])) ∧ Aside0 (Chg (fun _ => False) WB wr) ∧ Aside0 (wr.heap[gx]? = some (.cells #[.slice X1 xn1 xc1, .slice X2 xn2 xc2, .slice X3 xn3 xc3, .int .i64 xcu, .int .i64 xst, .int .i64 xsp, .int .i64 xrd] 40))) (fun _ _ i18 _ => xn3 - (intOf i18).toNat)
      case atStart => exact ⟨0, gs, gf, rfl, rfl, rfl, by omega, ⟨by rw [List.take_zero]; simpa [slotsV] using h6.out⟩, hCh, bX⟩
      case round =>
        obtain ⟨k, hs, hf, rfl, rfl, rfl, hk, h6, hCh, bX⟩ := hrel
        have x2 : wr.cell? ⟨gx, 2, none⟩ = some (.slice X3 xn3 xc3) := blk_cell bX.out 2
        have hnc : xn3 ≤ 1048576 := hxr.out.b.1
        have hzl : Aside0 (xn3 = xzs.length) := ⟨by have h := hxr.out.b.2.len; rw [List.length_map] at h; exact h⟩
        by_cases hk3 : k < xn3
        · skip
          have hk0 : (0 : Int) ≤ k := by omega
          have hk1 : (k : Int) < xn3 := by omega
          have hBw := hxr.out.b.2.chg hCh.out (fun _ _ h => h)
          obtain ⟨gB, e1, _⟩ := hBw.head (Nat.lt_of_lt_of_le (by omega : 0 < xn3) (Nat.le_of_eq hBw.len))
          simp only at e1
          subst e1
          obtain ⟨z, hz⟩ : ∃ z, xzs[k]? = some z := ⟨_, List.getElem?_eq_getElem (by have h := hzl.out; omega)⟩
          have q0 := ownRB hBw.toC k hk3 (r := ⟨z.1⟩) (by simp only; rw [List.getElem?_map, hz]; rfl)
          have hzA := Aside0.mk hz
          have hzf := Aside0.mk (hxr.out.f z (List.mem_of_getElem? hz))
          obtain ⟨⟨P, n, c⟩, fs⟩ := z
          simp only at q0
          clear hz hBw
          have hfl : Aside0 (n = fs.length) := ⟨hzf.out.2.len⟩
          have hnb : n ≤ 1048576 := hzf.out.1
          have hO := h6.out.f.O
          have hRef := Aside0.mk (Chg.refl (fun b => (slv hf).ownBlock = some b) wr)
          have hl : Aside0 ((((zsA (st.take j)).map (·.1) ++ (xzs.take k).map (·.1)).length + 1) * 24 ≤ 140737488355328) := ⟨by rw [List.length_append, List.length_map, List.length_map, List.length_take]; have h := hroom.out.2.1; have h2 := hzl.out; (try simp only at h); omega⟩
          go_upto_region 28 with (at_builtin; go_must (refine app1 kSl rfl (.tmp 96) (.tmp 103) rfl Try.underlying63 infoApartFramesL rfl (by decide) (by decide) (P, n, c) rfl rfl (kSl_M _ _ _) hO hRef hl ?_); go_must (intro v1 we hr1 hc1); go_must (obtain ⟨F1, F2, F3, rfl⟩ := R_sl hr1.out))
          (try simp only [Act.put, List.setIfInBounds_toArray, List.set_cons_zero, List.set_cons_succ])
          have hz1 := Lst.app h6.out.f hCh.out.size rfl hr1.out
          replace bX := Aside0.mk (h6.out.f.blk hc1.out bX.out (by decide))
          replace hCh := Aside0.mk (Lst.ch h6.out.f hCh.out hc1.out)
          replace h6 := Aside0.mk (h6.out.setF hz1 hc1.out)
          clear hz1 hr1 hc1 hO hRef hl
          clear q0 x2
          go_wp2
          go_loopw [12, 19] (fun v12 i19 wr => ∃ (i : Nat) (hs : SV), v12 = .slice hs.1 hs.2.1 hs.2.2 ∧ i19 = .int .i64 i ∧ i ≤ n ∧ Aside0 (Six WB.heap.size wr (T1, T2, T3) (O1, O2, O3) hs (F1, F2, F3) (B1, B2, B3) (R1, R2, R3) ((st.take j).map (·.v1) ++ [(X1, xn1, xc1)]) (rosA (st.take j) ++ xro) (slotsV (zsA (st.take j)) ++ slotsV (xzs.take k) ++ (fs.take i).map (·.slots)) ((zsA (st.take j)).map (·.1) ++ (xzs.take k).map (·.1) ++ [(P, n, c)]) ((st.take j).map (·.v3) ++ [(some ⟨gB, 0, none⟩, xn3, xc3)]) ((st.take j).map (·.v2) ++ [(X2, xn2, xc2)])) ∧ Aside0 (Chg (fun _ => False) WB wr) ∧ Aside0 (wr.heap[gx]? = some (.cells #[.slice X1 xn1 xc1, .slice X2 xn2 xc2, .slice (some ⟨gB, 0, none⟩) xn3 xc3, .int .i64 xcu, .int .i64 xst, .int .i64 xsp, .int .i64 xrd] 40))) (fun _ i19 _ => n - (intOf i19).toNat)
          case atStart => exact ⟨0, hs, rfl, rfl, by omega, ⟨by rw [List.take_zero]; simpa using h6.out⟩, hCh, bX⟩
          case round =>
            obtain ⟨i, hs, rfl, rfl, hi, h6, hCh, bX⟩ := hrel
            have x2 : wr.cell? ⟨gx, 2, none⟩ = some (.slice (some ⟨gB, 0, none⟩) xn3 xc3) := blk_cell bX.out 2
            have q0 := ownRB (hxr.out.b.2.chg hCh.out (fun _ _ h => h)).toC k hk3 (r := ⟨(P, n, c)⟩) (by simp only; rw [List.getElem?_map, hzA.out]; rfl)
            simp only at q0
            by_cases hin : i < n
            · skip
              have hi0 : (0 : Int) ≤ i := by omega
              have hi1 : (i : Int) < n := by omega
              have hzw := hzf.out.2.chg hCh.out (fun _ _ h => h)
              obtain ⟨gF, e1, _⟩ := hzw.head (by have h := hfl.out; (try simp only); omega)
              simp only at e1
              subst e1
              obtain ⟨f, hf0⟩ : ∃ f, fs[i]? = some f := ⟨_, List.getElem?_eq_getElem (by have h := hfl.out; omega)⟩
              obtain ⟨_, _, z2⟩ := ownRF hzw.toC i hin hf0
              have hfA : Aside0 ((fs.take (i + 1)).map (·.slots) = (fs.take i).map (·.slots) ++ [f.slots]) := ⟨by rw [List.take_add_one, hf0]; simp⟩
              clear hzw hf0
              have hO := h6.out.s.O
              have hRef := Aside0.mk (Chg.refl (fun b => (slv hs).ownBlock = some b) wr)
              have hl : Aside0 (((slotsV (zsA (st.take j)) ++ slotsV (xzs.take k) ++ (fs.take i).map (·.slots)).length + 1) * 24 ≤ 140737488355328) := ⟨by have h := hroom.out.2.2; have h2 := slotsV_le hzA.out (i := i) (by have h3 := hfl.out; (try simp only); omega); (try simp only at h); (try simp only at h2); rw [List.length_append, List.length_append]; rw [List.length_append] at h2; omega⟩
              go_wp2_with (at_builtin; go_must (refine app1 kSl rfl (.tmp 116) (.tmp 127) rfl Try.underlying41 infoVL rfl (by decide) (by decide) f.slots rfl rfl (kSl_M _ _ _) hO hRef hl ?_); go_must (intro v1 wf hr1 hc1); go_must (obtain ⟨S1, S2, S3, rfl⟩ := R_sl hr1.out))
              have hz1 := Lst.app h6.out.s hCh.out.size rfl hr1.out
              replace bX := Aside0.mk (h6.out.s.blk hc1.out bX.out (by decide))
              replace hCh := Aside0.mk (Lst.ch h6.out.s hCh.out hc1.out)
              replace h6 := Aside0.mk (h6.out.setS hz1 hc1.out)
              clear hz1 hr1 hc1 hO hRef hl
              go_roundw
              case measure => first | (simp [intOf]; done) | (simp [intOf]; omega)
              case rel => exact ⟨i + 1, (S1, S2, S3), rfl, by go_num, by omega, ⟨by rw [hfA.out, ← List.append_assoc]; exact h6.out⟩, hCh, bX⟩
            · skip
              obtain rfl : i = n := by omega
              have hE : Aside0 (slotsV (xzs.take (k + 1)) = slotsV (xzs.take k) ++ (fs.take i).map (·.slots)) := ⟨by rw [slotsV_step hzA.out, List.take_of_length_le (l := fs) (by have h := hfl.out; omega)]⟩
              have hE2 := Aside0.mk (map_take (f := fun z : SV × List RF => z.1) hzA.out)
              simp only at hE2
              go_wp2
              go_roundw
              case measure => first | (simp [intOf]; done) | (simp [intOf]; omega)
              case rel => exact ⟨k + 1, hs, (F1, F2, F3), rfl, rfl, by go_num, by omega, ⟨by rw [hE.out, hE2.out, ← List.append_assoc, ← List.append_assoc]; exact h6.out⟩, hCh, bX⟩
        · skip
          obtain rfl : k = xn3 := by omega
          have hE1 := rosA_step hxA.out
          have hE2 := zsA_step hxA.out
          have hE3 := st_snoc hxA.out
          simp only at hE1 hE2
          have h6' := h6.out
          rw [List.take_of_length_le (l := xzs) (by have h := hzl.out; omega)] at h6'
          have h7 : Aside0 (Six WB.heap.size wr (T1, T2, T3) (O1, O2, O3) hs hf (B1, B2, B3) (R1, R2, R3) ((st.take (j + 1)).map (·.v1)) (rosA (st.take (j + 1))) (slotsV (zsA (st.take (j + 1)))) ((zsA (st.take (j + 1))).map (·.1)) ((st.take (j + 1)).map (·.v3)) ((st.take (j + 1)).map (·.v2))) := ⟨by rw [hE1, hE2, hE3, slotsV_app, List.map_append, List.map_append, List.map_append, List.map_append]; exact h6'⟩
          clear h6' hE1 hE2 hE3
          go_wp2
          go_roundw
          case measure => first | (simp [intOf]; done) | (simp [intOf]; omega)
          case rel => exact ⟨j + 1, (T1, T2, T3), (O1, O2, O3), hs, hf, (B1, B2, B3), (R1, R2, R3), rfl, rfl, rfl, rfl, rfl, rfl, by go_num, by omega, h7, hCh⟩
    · skip
      have hjA : Aside0 (st.length ≤ j) := ⟨by have h := hs3.out; omega⟩
      have hj4 : ¬ (j : Int) < 3 := by omega
      rw [List.take_of_length_le hjA.out] at h6
      obtain ⟨gtA, gtn, gtc⟩ := gt
      obtain ⟨goA, gon, goc⟩ := go
      obtain ⟨gfA, gfn, gfc⟩ := gf
      obtain ⟨gbA, gbn, gbc⟩ := gb
      obtain ⟨grA, grn, grc⟩ := gr
      have hom : Aside0 (gon = (rosA st).length) := ⟨h6.out.o.row.len⟩
      have hlr := Aside0.mk hPkA.out.lr
      have hls := Aside0.mk hPkA.out.ls
      have hgm : gon ≤ 3145728 := by have h1 := hom.out; have h2 := hlr.out; have h3 := hs3.out; rw [h3] at h2; omega
      have hgm2 : Aside0 ((slotsV (zsA st)).length ≤ 3145728) := ⟨by have h2 := hls.out; have h3 := hs3.out; rw [h3] at h2; omega⟩
      go_wp2
      go_loopw [12, 20] (fun v12 i20 wr => ∃ (k : Nat) (hs : SV), v12 = .slice hs.1 hs.2.1 hs.2.2 ∧ i20 = .int .i64 k ∧ k ≤ gon ∧ Aside0 (∃ os, Six WB.heap.size wr (gtA, gtn, gtc) (goA, gon, goc) hs (gfA, gfn, gfc) (gbA, gbn, gbc) (grA, grn, grc) (st.map (·.v1)) os (slotsV (zsA st) ++ ((rosA st).take k).map (·.items)) ((zsA st).map (·.1)) (st.map (·.v3)) (st.map (·.v2)) ∧ Took k (rosA st) os) ∧ Aside0 (Chg (fun _ => False) WB wr)) (fun _ i20 _ => gon - (intOf i20).toNat)
      case atStart => exact ⟨0, gs, rfl, rfl, by omega, ⟨rosA st, by rw [List.take_zero]; simpa using h6.out, Took.zero _⟩, hCh⟩
      case round =>
        obtain ⟨k, hs, rfl, rfl, hk, ⟨os, h6, hTk⟩, hCh⟩ := hrel
        replace h6 := Aside0.mk h6
        replace hTk := Aside0.mk hTk
        by_cases hkg : k < gon
        · skip
          have hk0 : (0 : Int) ≤ k := by omega
          have hk1 : (k : Int) < gon := by omega
          obtain ⟨g, e1, _⟩ := h6.out.o.row.head (Nat.lt_of_lt_of_le (by omega : 0 < gon) (Nat.le_of_eq h6.out.o.row.len))
          simp only at e1
          subst e1
          have hol : Aside0 (gon = os.length) := ⟨h6.out.o.row.len⟩
          obtain ⟨r, hr⟩ : ∃ r, os[k]? = some r := ⟨_, List.getElem?_eq_getElem (by have h := hol.out; omega)⟩
          obtain ⟨r0, hr0⟩ : ∃ r, (rosA st)[k]? = some r := ⟨_, List.getElem?_eq_getElem (by have h := hom.out; omega)⟩
          obtain ⟨_, z1, _⟩ := ownRO h6.out.o.row.toC k hkg hr
          have hri : Aside0 (r.items = r0.items) := ⟨by have h := (hTk.out.2 k r r0 hr hr0).1; rwa [if_neg (Nat.lt_irrefl k)] at h⟩
          have hrA := Aside0.mk hr
          have hr0A := Aside0.mk hr0
          clear hr hr0
          have hO := h6.out.s.O
          have hRef := Aside0.mk (Chg.refl (fun b => (slv hs).ownBlock = some b) wr)
          have hl : Aside0 (((slotsV (zsA st) ++ ((rosA st).take k).map (·.items)).length + 1) * 24 ≤ 140737488355328) := ⟨by rw [List.length_append, List.length_map, List.length_take]; have h := hgm2.out; omega⟩
          go_upto_region 37 with (at_builtin; go_must (refine app1 kSl rfl (.tmp 136) (.tmp 142) rfl Try.underlying41 infoVL rfl (by decide) (by decide) r.items rfl rfl (kSl_M _ _ _) hO hRef hl ?_); go_must (intro v1 wg hr1 hc1); go_must (obtain ⟨S1, S2, S3, rfl⟩ := R_sl hr1.out))
          (try simp only [Act.put, List.setIfInBounds_toArray, List.set_cons_zero, List.set_cons_succ])
          have hz1 := Lst.app h6.out.s hCh.out.size rfl hr1.out
          replace hCh := Aside0.mk (Lst.ch h6.out.s hCh.out hc1.out)
          replace h6 := Aside0.mk (h6.out.setS hz1 hc1.out)
          clear hz1 hr1 hc1 hO hRef hl
          clear z1
          obtain ⟨u1, c1, f1⟩ := RowG.cellN (m := 6) rfl h6.out.o.row hkg (show 1 < 6 by decide)
          have hcs : Aside0 (Chg (fun b => (slv (some ⟨g, 0, none⟩, gon, goc)).ownBlock = some b) wg (wg.setCell ⟨g, k * 6 + 1, none⟩ (.slice none 0 0))) := ⟨(Chg.refl (fun b => (slv (some ⟨g, 0, none⟩, gon, goc)).ownBlock = some b) wg).setCell (p := ⟨g, k * 6 + 1, none⟩) (fun _ => rfl) _⟩
          have hz1 := Aside0.mk (h6.out.setO (h6.out.o.putNil hrA.out) hcs.out)
          have hC7 := Aside0.mk (Lst.ch h6.out.o hCh.out hcs.out)
          go_wp2
          go_roundw
          case measure => first | (simp [intOf]; done) | (simp [intOf]; omega)
          case rel => exact ⟨k + 1, (S1, S2, S3), rfl, by go_num, by omega, ⟨_, by rw [map_take hr0A.out, ← hri.out, ← List.append_assoc]; exact hz1.out, hTk.out.step hrA.out⟩, hC7⟩
        · skip
          obtain rfl : k = gon := by omega
          have h6' := h6.out
          rw [List.take_of_length_le (l := rosA st) (by have h := hom.out; omega)] at h6'
          have hGot : Aside0 (Got W2.heap.size WB wr st (gtA, gtn, gtc) (goA, k, goc) hs (gfA, gfn, gfc) (gbA, gbn, gbc) (grA, grn, grc) os) := ⟨⟨hCh.out, h6', hTk.out.1, fun i r r0 h1 h2 => by have h3 := hTk.out.2 i r r0 h1 h2; rw [if_pos (by have h4 := (List.getElem?_eq_some_iff.1 h1).1; have h5 := hTk.out.1; have h7 := hom.out; omega)] at h3; exact h3, hPkA.out, Nat.le_of_eq hs3.out⟩⟩
          clear h6' h6 hTk
          have hA0 : Aside0 (Aft W2.heap.size WB wr wr []) := ⟨Aft.refl⟩
          go_upto_region 42 with (first | (go_at_call 26; go_must (refine (hGot.out.texts hA0.out).mono ?_); go_must (rintro e w21 ⟨rfl, hA1⟩); go_must (replace hA1 := Aside0.mk hA1)) | (go_at_call 27; go_must (refine (hGot.out.objects hA1.out).mono ?_); go_must (rintro e w22 ⟨rfl, hA2⟩); go_must (replace hA2 := Aside0.mk hA2)) | (go_at_call 28; go_must (refine (hGot.out.values hA2.out).mono ?_); go_must (rintro e w23 ⟨rfl, hA3, hV3⟩); go_must (replace hA3 := Aside0.mk hA3); go_must (replace hV3 := Aside0.mk hV3)) | (go_at_call 29; go_must (refine (hGot.out.frames hA3.out hV3.out).mono ?_); go_must (rintro e w24 ⟨rfl, hA4⟩); go_must (replace hA4 := Aside0.mk hA4)) | (go_at_call 30; go_must (refine (hGot.out.fibers hA4.out).mono ?_); go_must (rintro e w25 ⟨rfl, hA5⟩); go_must (replace hA5 := Aside0.mk hA5)) | (go_at_call 31; go_must (refine (hGot.out.rows hA5.out).mono ?_); go_must (rintro e w26 ⟨rfl, hA6⟩); go_must (replace hA6 := Aside0.mk hA6)))
          (try simp only [Act.put, List.setIfInBounds_toArray, List.set_cons_zero, List.set_cons_succ])
          obtain ⟨S6, hcS, hS6⟩ := hA6.out
          have hloW : Aside0 (W2.heap.size ≤ w14.heap.size) := hloA
          have hC26 : Aside0 (Chg (fun _ => False) w w26) := ⟨(((h014.out.trans hzB.out (fun _ _ h => h)).trans hCh.out (fun _ _ h => h))).trans hcS (fun b hb h => by have h1 := (hS6 b h).1; have h2 := hsz.out; omega)⟩
          have k26 : Aside0 (Chg S6 w14 w26) := ⟨((hzB.out.trans hCh.out (fun _ _ h => h)).mono (fun _ _ h => h.elim)).trans hcS (fun _ _ h => h)⟩
          have hS6A : Aside0 (∀ b, S6 b → W2.heap.size ≤ b) := ⟨fun b h => (hS6 b h).1⟩
          have hVr3 := Aside0.mk (hV.out.below (hC26.out.below (fun _ _ h => h)))
          have h126 : Aside0 (Chg (fun _ => False) w1 w26) := ⟨((h19.out.trans k14.out (fun _ _ h => h))).trans k26.out (fun b hb h => by have h1 := hS6A.out b h; have h2 := hsz.out; omega)⟩
          have hWr3 := Aside0.mk (hWv.out.below (h126.out.below (fun _ _ h => h)))
          have vS : Aside0 (w26.heap[w.heap.size]? = some (.cells #[.slice tA s.texts.length tc, .slice oA s.objs.length oc, .slice bA s.fibers.length bc, .int .i64 s.cur, .int .i64 s.steps, .int .i64 s.spent, .int .i64 s.read] 40)) := ⟨k26.out.blk uS.out (fun h => by have h1 := hS6A.out _ h; have h2 := hsz.out; omega)⟩
          have vW : Aside0 (w26.heap[gw]? = some (.cells #[.slice P1 (CanonQ s).texts.length Pc1, .slice P2 (CanonQ s).objs.length Pc2, .slice P3 (CanonQ s).fibers.length Pc3, .int .i64 s.cur, .int .i64 s.steps, .int .i64 s.spent, .int .i64 s.read] 40)) := ⟨k26.out.blk uW.out (fun h => by have h1 := hS6A.out _ h; have h2 := hsz.out; omega)⟩
          clear hcS hS6 hGot hA0 hA1 hA2 hA3 hV3 hA4 hA5 hA6 hPkA hlit hCh
          have s_0 : w26.cell? ⟨w.heap.size, 0, none⟩ = some (.slice tA s.texts.length tc) := blk_cell vS.out 0
          have s_1 : w26.cell? ⟨w.heap.size, 1, none⟩ = some (.slice oA s.objs.length oc) := blk_cell vS.out 1
          have s_2 : w26.cell? ⟨w.heap.size, 2, none⟩ = some (.slice bA s.fibers.length bc) := blk_cell vS.out 2
          have s_3 : w26.cell? ⟨w.heap.size, 3, none⟩ = some (.int .i64 s.cur) := blk_cell vS.out 3
          have s_4 : w26.cell? ⟨w.heap.size, 4, none⟩ = some (.int .i64 s.steps) := blk_cell vS.out 4
          have s_5 : w26.cell? ⟨w.heap.size, 5, none⟩ = some (.int .i64 s.spent) := blk_cell vS.out 5
          have s_6 : w26.cell? ⟨w.heap.size, 6, none⟩ = some (.int .i64 s.read) := blk_cell vS.out 6
          have w_0 : w26.cell? ⟨gw, 0, none⟩ = some (.slice P1 (CanonQ s).texts.length Pc1) := blk_cell vW.out 0
          have w_1 : w26.cell? ⟨gw, 1, none⟩ = some (.slice P2 (CanonQ s).objs.length Pc2) := blk_cell vW.out 1
          have w_2 : w26.cell? ⟨gw, 2, none⟩ = some (.slice P3 (CanonQ s).fibers.length Pc3) := blk_cell vW.out 2
          have w_3 : w26.cell? ⟨gw, 3, none⟩ = some (.int .i64 s.cur) := blk_cell vW.out 3
          have w_4 : w26.cell? ⟨gw, 4, none⟩ = some (.int .i64 s.steps) := blk_cell vW.out 4
          have w_5 : w26.cell? ⟨gw, 5, none⟩ = some (.int .i64 s.spent) := blk_cell vW.out 5
          have w_6 : w26.cell? ⟨gw, 6, none⟩ = some (.int .i64 s.read) := blk_cell vW.out 6
          have hwdd2 : Aside0 (Chg (fun _ => False) w26 w26.drew) := ⟨(Chg.refl (fun _ => False) w26).drew⟩
          refine start_ (n := 5) (S := fun w' => w'.cell? ⟨w.heap.size, 0, none⟩ = some (.slice tA s.texts.length tc) ∧ w'.cell? ⟨w.heap.size, 1, none⟩ = some (.slice oA s.objs.length oc) ∧ w'.cell? ⟨w.heap.size, 2, none⟩ = some (.slice bA s.fibers.length bc) ∧ w'.cell? ⟨w.heap.size, 3, none⟩ = some (.int .i64 s.cur) ∧ w'.cell? ⟨w.heap.size, 4, none⟩ = some (.int .i64 s.steps) ∧ w'.cell? ⟨w.heap.size, 5, none⟩ = some (.int .i64 s.spent) ∧ w'.cell? ⟨w.heap.size, 6, none⟩ = some (.int .i64 s.read) ∧ w'.cell? ⟨gw, 0, none⟩ = some (.slice P1 (CanonQ s).texts.length Pc1) ∧ w'.cell? ⟨gw, 1, none⟩ = some (.slice P2 (CanonQ s).objs.length Pc2) ∧ w'.cell? ⟨gw, 2, none⟩ = some (.slice P3 (CanonQ s).fibers.length Pc3) ∧ w'.cell? ⟨gw, 3, none⟩ = some (.int .i64 s.cur) ∧ w'.cell? ⟨gw, 4, none⟩ = some (.int .i64 s.steps) ∧ w'.cell? ⟨gw, 5, none⟩ = some (.int .i64 s.spent) ∧ w'.cell? ⟨gw, 6, none⟩ = some (.int .i64 s.read)) (ds := []) #[false, false, false, false, false] (by kernel_rfl) rfl rfl ⟨s_0, s_1, s_2, s_3, s_4, s_5, s_6, w_0, w_1, w_2, w_3, w_4, w_5, w_6⟩ (fun hHeld => ?_)
          refine take_ (i := 0) (N := some 174) (v := ?_) (a' := ?_) #[true, false, false, false, false] rfl rfl (by kernel_rfl) (fun _ _ _ h => h) (Or.inl ⟨by rfl, ?_⟩) hHeld ?_ ?_
          rotate_left
          · rintro w' ⟨s0, s1, s2, s3, s4, s5, s6, s7, s8, s9, s10, s11, s12, s13⟩
            go_simp
            with_reducible rfl
          rotate_left
          · simp only [Act.put, List.setIfInBounds_toArray, List.set_cons_zero, List.set_cons_succ, i64_w, i32_w]
            rfl
          refine take_ (i := 2) (N := some 176) (v := ?_) (a' := ?_) #[true, false, true, false, false] rfl rfl (by kernel_rfl) (fun _ _ _ h => h) (Or.inl ⟨by rfl, ?_⟩) hHeld ?_ ?_
          rotate_left
          · rintro w' ⟨s0, s1, s2, s3, s4, s5, s6, s7, s8, s9, s10, s11, s12, s13⟩
            go_simp
            with_reducible rfl
          rotate_left
          · simp only [Act.put, List.setIfInBounds_toArray, List.set_cons_zero, List.set_cons_succ, i64_w, i32_w]
            rfl
          refine one_ (i := 1) (N := some 175) #[true, true, true, false, false] rfl rfl (by kernel_rfl) (by decide) (fun K hK => ?_)
          refine goes_ Try.func21 (by kernel_rfl) rfl #[.agg #[.slice tA s.texts.length tc, .slice oA s.objs.length oc, .slice bA s.fibers.length bc, .int .i64 s.cur, .int .i64 s.steps, .int .i64 s.spent, .int .i64 s.read]] (by rfl) rfl rfl (by simp only [List.map_toArray, List.map_cons, List.map_nil]; rfl) ?_
          with_reducible refine (st_CanonA w26.drew tA oA bA tc oc bc s ros rbs L (hVr3.out.below bl) hS.out hD.out).mono ?_
          rintro e w27 ⟨⟨U1, Un1, Uc1⟩, ⟨U2, Un2, Uc2⟩, ⟨U3, Un3, Uc3⟩, Uro, UZ, rfl, hO27, hc27, _, _⟩
          obtain rfl : Un1 = (CanonQ s).texts.length := (hO27.t.len).1
          obtain rfl : Un2 = (CanonQ s).objs.length := (hO27.o.len).1.trans hO27.oc.1
          obtain rfl : Un3 = (CanonQ s).fibers.length := (hO27.b.len).1.trans (by rw [List.length_map]; exact hO27.bc.1)
          refine ⟨.agg #[.slice U1 (CanonQ s).texts.length Uc1, .slice U2 (CanonQ s).objs.length Uc2, .slice U3 (CanonQ s).fibers.length Uc3, .int .i64 s.cur, .int .i64 s.steps, .int .i64 s.spent, .int .i64 s.read], rfl, ?_⟩
          replace hc27 := Aside0.mk hc27
          have hUv := Aside0.mk hO27.view
          simp only at hUv
          have k27 := Aside0.mk (hwdd2.out.trans hc27.out (fun _ _ h => h))
          refine hK.out _ _ ⟨(cell_chg0 s_0 k27.out), (cell_chg0 s_1 k27.out), (cell_chg0 s_2 k27.out), (cell_chg0 s_3 k27.out), (cell_chg0 s_4 k27.out), (cell_chg0 s_5 k27.out), (cell_chg0 s_6 k27.out), (cell_chg0 w_0 k27.out), (cell_chg0 w_1 k27.out), (cell_chg0 w_2 k27.out), (cell_chg0 w_3 k27.out), (cell_chg0 w_4 k27.out), (cell_chg0 w_5 k27.out), (cell_chg0 w_6 k27.out)⟩ (fun hHeld => ?_)
          clear hK K
          refine norm_ (a' := ?_) ?_ ?_
          rotate_left
          · show Act.put _ (some 175) _ = _
            simp only [Act.put, List.setIfInBounds_toArray, List.set_cons_zero, List.set_cons_succ, i64_w, i32_w]
            rfl
          refine one_ (i := 3) (N := some 177) #[true, true, true, true, false] rfl rfl (by kernel_rfl) (by decide) (fun K hK => ?_)
          refine goes_ Try.func22 (by kernel_rfl) rfl #[.agg #[.slice U1 (CanonQ s).texts.length Uc1, .slice U2 (CanonQ s).objs.length Uc2, .slice U3 (CanonQ s).fibers.length Uc3, .int .i64 s.cur, .int .i64 s.steps, .int .i64 s.spent, .int .i64 s.read], .agg #[.slice P1 (CanonQ s).texts.length Pc1, .slice P2 (CanonQ s).objs.length Pc2, .slice P3 (CanonQ s).fibers.length Pc3, .int .i64 s.cur, .int .i64 s.steps, .int .i64 s.spent, .int .i64 s.read]] (by rfl) rfl rfl (by simp only [List.map_toArray, List.map_cons, List.map_nil]; rfl) ?_
          with_reducible refine (told_yes (same_StateD w27 U1 U2 U3 P1 P2 P3 Uc1 Uc2 Uc3 Pc1 Pc2 Pc3 s s Uro Pro (UZ.map (·.1)) (PZ.map (·.1)) (UZ.map (·.2)) (PZ.map (·.2)) (hUv.out.below bl) (hWr3.out.below bl)) rfl).mono ?_
          rintro e w28 ⟨rfl, hc28⟩
          refine ⟨_, rfl, ?_⟩
          replace hc28 := Aside0.mk hc28
          have k28 := Aside0.mk (k27.out.trans hc28.out (fun _ _ h => h))
          refine hK.out _ _ ⟨(cell_chg0 s_0 k28.out), (cell_chg0 s_1 k28.out), (cell_chg0 s_2 k28.out), (cell_chg0 s_3 k28.out), (cell_chg0 s_4 k28.out), (cell_chg0 s_5 k28.out), (cell_chg0 s_6 k28.out), (cell_chg0 w_0 k28.out), (cell_chg0 w_1 k28.out), (cell_chg0 w_2 k28.out), (cell_chg0 w_3 k28.out), (cell_chg0 w_4 k28.out), (cell_chg0 w_5 k28.out), (cell_chg0 w_6 k28.out)⟩ (fun hHeld => ?_)
          clear hK K
          refine norm_ (a' := ?_) ?_ ?_
          rotate_left
          · show Act.put _ (some 177) _ = _
            simp only [Act.put, List.setIfInBounds_toArray, List.set_cons_zero, List.set_cons_succ, i64_w, i32_w]
            rfl
          refine pure_ (i := 4) (N := some 4) (v := ?_) (a' := ?_) #[true, true, true, true, true] rfl rfl (by kernel_rfl) (fun _ _ _ h => h) (Or.inl ⟨by rfl, ?_⟩) ?_ ?_
          rotate_left
          · intro w'
            go_simp
            with_reducible rfl
          rotate_left
          · simp only [Act.put, List.setIfInBounds_toArray, List.set_cons_zero, List.set_cons_succ, i64_w, i32_w]
            rfl
          refine done_ (by kernel_rfl) ?_
          go_wp2
          go_ret
          exact ⟨rfl, (hC26.out.trans k28.out (fun _ _ h => h)).below (fun _ _ h => h)⟩
end Go.Proofs.Ytdoghjmanogelaa.K
