import Derived.Test.YtdoghjmanogelaaUj
import Derived.Test.YtdoghjmanogelaaUg
import Derived.Test.YtdoghjmanogelaaVz
import Derived.IntWalk
import Derived.BigQuiet
import Derived.Deep.RegionHeld3
namespace Go.Proofs.Ytdoghjmanogelaa.K
open Go.RowKit Go.Proofs.YtdoghjmanogelaaW.PrintWords Go.Proofs.YtdoghjmanogelaaW.PrintLast Go.Proofs.YtdoghjmanogelaaW.PrintMore
set_option linter.unusedVariables false
set_option linter.unusedSimpArgs false
set_option maxRecDepth 100000

theorem same_StateC (w : World) (P1 P2 P3 Q1 Q2 Q3 : Option Addr) (Pc1 Pc2 Pc3 Qc1 Qc2 Qc3 : Nat) (s s' : QS) (ros ros' : List RO) (rbs rbs' : List RB) (L L' : List (List RF)) (h : SView w P1 P2 P3 (CanonQ s) ros rbs L) (h' : SView w Q1 Q2 Q3 (CanonQ s') ros' rbs' L') :
    Calls Try.prog 22 #[.agg #[.slice P1 (CanonQ s).texts.length Pc1, .slice P2 (CanonQ s).objs.length Pc2, .slice P3 (CanonQ s).fibers.length Pc3, .int .i64 s.cur, .int .i64 s.steps, .int .i64 s.spent, .int .i64 s.read], .agg #[.slice Q1 (CanonQ s').texts.length Qc1, .slice Q2 (CanonQ s').objs.length Qc2, .slice Q3 (CanonQ s').fibers.length Qc3, .int .i64 s'.cur, .int .i64 s'.steps, .int .i64 s'.spent, .int .i64 s'.read]] w (Told (CanonQ s = CanonQ s') w) := same_State w P1 P2 P3 Q1 Q2 Q3 Pc1 Pc2 Pc3 Qc1 Qc2 Qc3 (CanonQ s) (CanonQ s') ros ros' rbs rbs' L L' h h'
set_option maxHeartbeats 2000000
theorem ref_Same (w : World) (tA oA bA tA' oA' bA' : Option Addr) (tc oc bc tc' oc' bc' : Nat) (s s' : QS) (ros ros' : List RO) (rbs rbs' : List RB) (L L' : List (List RF)) (h : SView w tA oA bA s ros rbs L) (h' : SView w tA' oA' bA' s' ros' rbs' L') (hs : SSmall s) (hs' : SSmall s') (hb : SBound s) (hb' : SBound s') :
    Calls Try.prog 32 #[.agg #[.slice tA s.texts.length tc, .slice oA s.objs.length oc, .slice bA s.fibers.length bc, .int .i64 s.cur, .int .i64 s.steps, .int .i64 s.spent, .int .i64 s.read], .agg #[.slice tA' s'.texts.length tc', .slice oA' s'.objs.length oc', .slice bA' s'.fibers.length bc', .int .i64 s'.cur, .int .i64 s'.steps, .int .i64 s'.spent, .int .i64 s'.read]] w (Told (CanonQ s = CanonQ s') w) := by
  have hV := Aside0.mk h
  have hV2 := Aside0.mk h'
  have hS := Aside0.mk hs
  have hS2 := Aside0.mk hs'
  have hD := Aside0.mk hb
  have hD2 := Aside0.mk hb'
  clear h h' hs hs' hb hb'
  go_enter Try.func32, Try.ntmps32
  go_upto_region 1 with (fail)
  (try simp only [Act.put, List.setIfInBounds_toArray, List.set_cons_zero, List.set_cons_succ])
  generalize hW : World.alloc (World.alloc w _) _ = W0
  have B1 : Aside0 (W0.heap[w.heap.size]? = some (.cells #[.slice tA s.texts.length tc, .slice oA s.objs.length oc, .slice bA s.fibers.length bc, .int .i64 s.cur, .int .i64 s.steps, .int .i64 s.spent, .int .i64 s.read] 40)) := ⟨by rw [← hW]; exact ((Chg.refl (fun _ => False) (w.alloc _)).alloc _).blk (heap_alloc_new w _) (fun e => e)⟩
  have B2 : Aside0 (W0.heap[w.heap.size + 1]? = some (.cells #[.slice tA' s'.texts.length tc', .slice oA' s'.objs.length oc', .slice bA' s'.fibers.length bc', .int .i64 s'.cur, .int .i64 s'.steps, .int .i64 s'.spent, .int .i64 s'.read] 40)) := ⟨by rw [← hW]; exact heap_alloc2_new w _ _⟩
  have hz0 : Aside0 (Chg (fun _ => False) w W0) := ⟨by rw [← hW]; exact cg⟩
  clear hW
  have hgt := blk_lt B2.out
  have hzd : Aside0 (Chg (fun _ => False) W0 W0.drew) := ⟨(Chg.refl (fun _ => False) W0).drew⟩
  have hz0d : Aside0 (Chg (fun _ => False) w W0.drew) := ⟨hz0.out.trans hzd.out (fun _ _ h => h)⟩
  have p0 : W0.cell? ⟨w.heap.size, 0, none⟩ = some (.slice tA s.texts.length tc) := blk_cell B1.out 0
  have p1 : W0.cell? ⟨w.heap.size, 1, none⟩ = some (.slice oA s.objs.length oc) := blk_cell B1.out 1
  have p2 : W0.cell? ⟨w.heap.size, 2, none⟩ = some (.slice bA s.fibers.length bc) := blk_cell B1.out 2
  have p3 : W0.cell? ⟨w.heap.size, 3, none⟩ = some (.int .i64 s.cur) := blk_cell B1.out 3
  have p4 : W0.cell? ⟨w.heap.size, 4, none⟩ = some (.int .i64 s.steps) := blk_cell B1.out 4
  have p5 : W0.cell? ⟨w.heap.size, 5, none⟩ = some (.int .i64 s.spent) := blk_cell B1.out 5
  have p6 : W0.cell? ⟨w.heap.size, 6, none⟩ = some (.int .i64 s.read) := blk_cell B1.out 6
  have q0 : W0.cell? ⟨w.heap.size + 1, 0, none⟩ = some (.slice tA' s'.texts.length tc') := blk_cell B2.out 0
  have q1 : W0.cell? ⟨w.heap.size + 1, 1, none⟩ = some (.slice oA' s'.objs.length oc') := blk_cell B2.out 1
  have q2 : W0.cell? ⟨w.heap.size + 1, 2, none⟩ = some (.slice bA' s'.fibers.length bc') := blk_cell B2.out 2
  have q3 : W0.cell? ⟨w.heap.size + 1, 3, none⟩ = some (.int .i64 s'.cur) := blk_cell B2.out 3
  have q4 : W0.cell? ⟨w.heap.size + 1, 4, none⟩ = some (.int .i64 s'.steps) := blk_cell B2.out 4
  have q5 : W0.cell? ⟨w.heap.size + 1, 5, none⟩ = some (.int .i64 s'.spent) := blk_cell B2.out 5
  have q6 : W0.cell? ⟨w.heap.size + 1, 6, none⟩ = some (.int .i64 s'.read) := blk_cell B2.out 6
  refine start_ (n := 6) (S := fun w' => w'.cell? ⟨w.heap.size, 0, none⟩ = some (.slice tA s.texts.length tc) ∧ w'.cell? ⟨w.heap.size, 1, none⟩ = some (.slice oA s.objs.length oc) ∧ w'.cell? ⟨w.heap.size, 2, none⟩ = some (.slice bA s.fibers.length bc) ∧ w'.cell? ⟨w.heap.size, 3, none⟩ = some (.int .i64 s.cur) ∧ w'.cell? ⟨w.heap.size, 4, none⟩ = some (.int .i64 s.steps) ∧ w'.cell? ⟨w.heap.size, 5, none⟩ = some (.int .i64 s.spent) ∧ w'.cell? ⟨w.heap.size, 6, none⟩ = some (.int .i64 s.read) ∧ w'.cell? ⟨w.heap.size + 1, 0, none⟩ = some (.slice tA' s'.texts.length tc') ∧ w'.cell? ⟨w.heap.size + 1, 1, none⟩ = some (.slice oA' s'.objs.length oc') ∧ w'.cell? ⟨w.heap.size + 1, 2, none⟩ = some (.slice bA' s'.fibers.length bc') ∧ w'.cell? ⟨w.heap.size + 1, 3, none⟩ = some (.int .i64 s'.cur) ∧ w'.cell? ⟨w.heap.size + 1, 4, none⟩ = some (.int .i64 s'.steps) ∧ w'.cell? ⟨w.heap.size + 1, 5, none⟩ = some (.int .i64 s'.spent) ∧ w'.cell? ⟨w.heap.size + 1, 6, none⟩ = some (.int .i64 s'.read)) (ds := []) #[false, false, false, false, false, false] (by kernel_rfl) rfl rfl ⟨p0, p1, p2, p3, p4, p5, p6, q0, q1, q2, q3, q4, q5, q6⟩ (fun hHeld => ?_)
  refine take_ (i := 0) (N := some 5) (v := ?_) (a' := ?_) #[true, false, false, false, false, false] rfl rfl (by kernel_rfl) (fun _ _ _ h => h) (Or.inl ⟨by rfl, ?_⟩) hHeld ?_ ?_
  rotate_left
  · rintro w' ⟨s0, s1, s2, s3, s4, s5, s6, s7, s8, s9, s10, s11, s12, s13⟩
    go_simp
    with_reducible rfl
  rotate_left
  · simp only [Act.put, List.setIfInBounds_toArray, List.set_cons_zero, List.set_cons_succ, i64_w, i32_w]
    rfl
  refine take_ (i := 2) (N := some 7) (v := ?_) (a' := ?_) #[true, false, true, false, false, false] rfl rfl (by kernel_rfl) (fun _ _ _ h => h) (Or.inl ⟨by rfl, ?_⟩) hHeld ?_ ?_
  rotate_left
  · rintro w' ⟨s0, s1, s2, s3, s4, s5, s6, s7, s8, s9, s10, s11, s12, s13⟩
    go_simp
    with_reducible rfl
  rotate_left
  · simp only [Act.put, List.setIfInBounds_toArray, List.set_cons_zero, List.set_cons_succ, i64_w, i32_w]
    rfl
  refine one_ (i := 1) (N := some 6) #[true, true, true, false, false, false] rfl rfl (by kernel_rfl) (by decide) (fun K hK => ?_)
  refine goes_ Try.func20 (by kernel_rfl) rfl #[.agg #[.slice tA s.texts.length tc, .slice oA s.objs.length oc, .slice bA s.fibers.length bc, .int .i64 s.cur, .int .i64 s.steps, .int .i64 s.spent, .int .i64 s.read]] (by rfl) rfl rfl (by simp only [List.map_toArray, List.map_cons, List.map_nil]; rfl) ?_
  with_reducible refine (ref_Canon W0.drew tA oA bA tc oc bc s ros rbs L (hV.out.below (hz0d.out.below (fun _ _ h => h))) hS.out hD.out).mono ?_
  rintro e w1 ⟨⟨P1, Pn1, Pc1⟩, ⟨P2, Pn2, Pc2⟩, ⟨P3, Pn3, Pc3⟩, Pro, PZ, rfl, hP, hc1⟩
  obtain rfl : Pn1 = (CanonQ s).texts.length := (hP.t.len).1
  obtain rfl : Pn2 = (CanonQ s).objs.length := (hP.o.len).1.trans hP.oc.1
  obtain rfl : Pn3 = (CanonQ s).fibers.length := (hP.b.len).1.trans (by rw [List.length_map]; exact hP.bc.1)
  refine ⟨.agg #[.slice P1 (CanonQ s).texts.length Pc1, .slice P2 (CanonQ s).objs.length Pc2, .slice P3 (CanonQ s).fibers.length Pc3, .int .i64 s.cur, .int .i64 s.steps, .int .i64 s.spent, .int .i64 s.read], rfl, ?_⟩
  have h01 : Aside0 (Chg (fun _ => False) w w1) := ⟨hz0d.out.trans hc1 (fun _ _ h => h)⟩
  have b11 := Aside0.mk ((hzd.out.trans hc1 (fun _ _ h => h)).blk B1.out (fun h => h))
  have b12 := Aside0.mk ((hzd.out.trans hc1 (fun _ _ h => h)).blk B2.out (fun h => h))
  replace hP := Aside0.mk hP
  replace hc1 := Aside0.mk hc1
  refine hK.out _ _ ⟨(blk_cell b11.out 0), (blk_cell b11.out 1), (blk_cell b11.out 2), (blk_cell b11.out 3), (blk_cell b11.out 4), (blk_cell b11.out 5), (blk_cell b11.out 6), (blk_cell b12.out 0), (blk_cell b12.out 1), (blk_cell b12.out 2), (blk_cell b12.out 3), (blk_cell b12.out 4), (blk_cell b12.out 5), (blk_cell b12.out 6)⟩ (fun hHeld => ?_)
  clear hK K
  refine norm_ (a' := ?_) ?_ ?_
  rotate_left
  · show Act.put _ (some 6) _ = _
    simp only [Act.put, List.setIfInBounds_toArray, List.set_cons_zero, List.set_cons_succ, i64_w, i32_w]
    rfl
  refine one_ (i := 3) (N := some 8) #[true, true, true, true, false, false] rfl rfl (by kernel_rfl) (by decide) (fun K hK => ?_)
  refine goes_ Try.func20 (by kernel_rfl) rfl #[.agg #[.slice tA' s'.texts.length tc', .slice oA' s'.objs.length oc', .slice bA' s'.fibers.length bc', .int .i64 s'.cur, .int .i64 s'.steps, .int .i64 s'.spent, .int .i64 s'.read]] (by rfl) rfl rfl (by simp only [List.map_toArray, List.map_cons, List.map_nil]; rfl) ?_
  with_reducible refine (ref_Canon w1 tA' oA' bA' tc' oc' bc' s' ros' rbs' L' (hV2.out.below (h01.out.below (fun _ _ h => h))) hS2.out hD2.out).mono ?_
  rintro e w2 ⟨⟨Q1, Qn1, Qc1⟩, ⟨Q2, Qn2, Qc2⟩, ⟨Q3, Qn3, Qc3⟩, Qro, QZ, rfl, hQ, hc2⟩
  obtain rfl : Qn1 = (CanonQ s').texts.length := (hQ.t.len).1
  obtain rfl : Qn2 = (CanonQ s').objs.length := (hQ.o.len).1.trans hQ.oc.1
  obtain rfl : Qn3 = (CanonQ s').fibers.length := (hQ.b.len).1.trans (by rw [List.length_map]; exact hQ.bc.1)
  refine ⟨.agg #[.slice Q1 (CanonQ s').texts.length Qc1, .slice Q2 (CanonQ s').objs.length Qc2, .slice Q3 (CanonQ s').fibers.length Qc3, .int .i64 s'.cur, .int .i64 s'.steps, .int .i64 s'.spent, .int .i64 s'.read], rfl, ?_⟩
  have h02 : Aside0 (Chg (fun _ => False) w w2) := ⟨h01.out.trans hc2 (fun _ _ h => h)⟩
  have b21 := Aside0.mk (hc2.blk b11.out (fun h => h))
  have b22 := Aside0.mk (hc2.blk b12.out (fun h => h))
  have hPv := Aside0.mk (hP.out.view.below (hc2.below (fun _ _ h => h)))
  have hQv := Aside0.mk hQ.view
  simp only at hPv hQv
  have hP2 := Aside0.mk (hP.out.hit hc2 Hits.no)
  replace hQ := Aside0.mk hQ
  refine hK.out _ _ ⟨(blk_cell b21.out 0), (blk_cell b21.out 1), (blk_cell b21.out 2), (blk_cell b21.out 3), (blk_cell b21.out 4), (blk_cell b21.out 5), (blk_cell b21.out 6), (blk_cell b22.out 0), (blk_cell b22.out 1), (blk_cell b22.out 2), (blk_cell b22.out 3), (blk_cell b22.out 4), (blk_cell b22.out 5), (blk_cell b22.out 6)⟩ (fun hHeld => ?_)
  clear hK K
  refine norm_ (a' := ?_) ?_ ?_
  rotate_left
  · show Act.put _ (some 8) _ = _
    simp only [Act.put, List.setIfInBounds_toArray, List.set_cons_zero, List.set_cons_succ, i64_w, i32_w]
    rfl
  refine one_ (i := 4) (N := some 9) #[true, true, true, true, true, false] rfl rfl (by kernel_rfl) (by decide) (fun K hK => ?_)
  refine goes_ Try.func22 (by kernel_rfl) rfl #[.agg #[.slice P1 (CanonQ s).texts.length Pc1, .slice P2 (CanonQ s).objs.length Pc2, .slice P3 (CanonQ s).fibers.length Pc3, .int .i64 s.cur, .int .i64 s.steps, .int .i64 s.spent, .int .i64 s.read], .agg #[.slice Q1 (CanonQ s').texts.length Qc1, .slice Q2 (CanonQ s').objs.length Qc2, .slice Q3 (CanonQ s').fibers.length Qc3, .int .i64 s'.cur, .int .i64 s'.steps, .int .i64 s'.spent, .int .i64 s'.read]] (by rfl) rfl rfl (by simp only [List.map_toArray, List.map_cons, List.map_nil]; rfl) ?_
  with_reducible refine (same_StateC w2 P1 P2 P3 Q1 Q2 Q3 Pc1 Pc2 Pc3 Qc1 Qc2 Qc3 s s' Pro Qro (PZ.map (·.1)) (QZ.map (·.1)) (PZ.map (·.2)) (QZ.map (·.2)) hPv.out hQv.out).mono ?_
  rintro e w3 ⟨b9, rfl, hb9, hc3⟩
  refine ⟨_, rfl, ?_⟩
  have b31 := Aside0.mk (hc3.blk b21.out (fun h => h))
  have b32 := Aside0.mk (hc3.blk b22.out (fun h => h))
  refine hK.out _ _ ⟨(blk_cell b31.out 0), (blk_cell b31.out 1), (blk_cell b31.out 2), (blk_cell b31.out 3), (blk_cell b31.out 4), (blk_cell b31.out 5), (blk_cell b31.out 6), (blk_cell b32.out 0), (blk_cell b32.out 1), (blk_cell b32.out 2), (blk_cell b32.out 3), (blk_cell b32.out 4), (blk_cell b32.out 5), (blk_cell b32.out 6)⟩ (fun hHeld => ?_)
  clear hK K
  refine norm_ (a' := ?_) ?_ ?_
  rotate_left
  · show Act.put _ (some 9) _ = _
    simp only [Act.put, List.setIfInBounds_toArray, List.set_cons_zero, List.set_cons_succ, i64_w, i32_w]
    rfl
  refine pure_ (i := 5) (N := some 4) (v := ?_) (a' := ?_) #[true, true, true, true, true, true] rfl rfl (by kernel_rfl) (fun _ _ _ h => h) (Or.inl ⟨by rfl, ?_⟩) ?_ ?_
  rotate_left
  · intro w'
    go_simp
    with_reducible rfl
  rotate_left
  · simp only [Act.put, List.setIfInBounds_toArray, List.set_cons_zero, List.set_cons_succ, i64_w, i32_w]
    rfl
  refine done_ (by kernel_rfl) ?_

  go_wp2
  go_ret
  exact ⟨b9, rfl, hb9, h02.out.trans hc3 (fun _ _ h => h)⟩
theorem canon_ext {s s' : QS} (h1 : (CanonQ s).texts = (CanonQ s').texts) (h2 : (CanonQ s).objs = (CanonQ s').objs) (h3 : (CanonQ s).fibers = (CanonQ s').fibers) (h4 : s.cur = s'.cur) (h5 : s.steps = s'.steps) (h6 : s.spent = s'.spent) (h7 : s.read = s'.read) : CanonQ s = CanonQ s' := by
  unfold CanonQ at *
  simp only at h1 h2 h3
  rw [h1, h2, h3, h4, h5, h6, h7]
theorem st_Same (w : World) (tA oA bA tA' oA' bA' : Option Addr) (tc oc bc tc' oc' bc' : Nat) (s s' : QS) (ros ros' : List RO) (rbs rbs' : List RB) (L L' : List (List RF)) (h : SView w tA oA bA s ros rbs L) (h' : SView w tA' oA' bA' s' ros' rbs' L') (hs : SSmall s) (hs' : SSmall s') (hb : SBound s) (hb' : SBound s') :
    Calls Try.prog 33 #[.agg #[.slice tA s.texts.length tc, .slice oA s.objs.length oc, .slice bA s.fibers.length bc, .int .i64 s.cur, .int .i64 s.steps, .int .i64 s.spent, .int .i64 s.read], .agg #[.slice tA' s'.texts.length tc', .slice oA' s'.objs.length oc', .slice bA' s'.fibers.length bc', .int .i64 s'.cur, .int .i64 s'.steps, .int .i64 s'.spent, .int .i64 s'.read]] w (Told (CanonQ s = CanonQ s') w) := by
  have hV := Aside0.mk h
  have hV2 := Aside0.mk h'
  have hS := Aside0.mk hs
  have hS2 := Aside0.mk hs'
  have hD := Aside0.mk hb
  have hD2 := Aside0.mk hb'
  clear h h' hs hs' hb hb'
  go_enter Try.func33, Try.ntmps33
  go_upto_region 1 with (fail)
  (try simp only [Act.put, List.setIfInBounds_toArray, List.set_cons_zero, List.set_cons_succ])
  generalize hW : World.alloc (World.alloc w _) _ = W0
  have B1 : Aside0 (W0.heap[w.heap.size]? = some (.cells #[.slice tA s.texts.length tc, .slice oA s.objs.length oc, .slice bA s.fibers.length bc, .int .i64 s.cur, .int .i64 s.steps, .int .i64 s.spent, .int .i64 s.read] 40)) := ⟨by rw [← hW]; exact ((Chg.refl (fun _ => False) (w.alloc _)).alloc _).blk (heap_alloc_new w _) (fun e => e)⟩
  have B2 : Aside0 (W0.heap[w.heap.size + 1]? = some (.cells #[.slice tA' s'.texts.length tc', .slice oA' s'.objs.length oc', .slice bA' s'.fibers.length bc', .int .i64 s'.cur, .int .i64 s'.steps, .int .i64 s'.spent, .int .i64 s'.read] 40)) := ⟨by rw [← hW]; exact heap_alloc2_new w _ _⟩
  have hz0 : Aside0 (Chg (fun _ => False) w W0) := ⟨by rw [← hW]; exact cg⟩
  clear hW
  have hgt := blk_lt B2.out
  have hzd : Aside0 (Chg (fun _ => False) W0 W0.drew) := ⟨(Chg.refl (fun _ => False) W0).drew⟩
  have hz0d : Aside0 (Chg (fun _ => False) w W0.drew) := ⟨hz0.out.trans hzd.out (fun _ _ h => h)⟩
  have p0 : W0.cell? ⟨w.heap.size, 0, none⟩ = some (.slice tA s.texts.length tc) := blk_cell B1.out 0
  have p1 : W0.cell? ⟨w.heap.size, 1, none⟩ = some (.slice oA s.objs.length oc) := blk_cell B1.out 1
  have p2 : W0.cell? ⟨w.heap.size, 2, none⟩ = some (.slice bA s.fibers.length bc) := blk_cell B1.out 2
  have p3 : W0.cell? ⟨w.heap.size, 3, none⟩ = some (.int .i64 s.cur) := blk_cell B1.out 3
  have p4 : W0.cell? ⟨w.heap.size, 4, none⟩ = some (.int .i64 s.steps) := blk_cell B1.out 4
  have p5 : W0.cell? ⟨w.heap.size, 5, none⟩ = some (.int .i64 s.spent) := blk_cell B1.out 5
  have p6 : W0.cell? ⟨w.heap.size, 6, none⟩ = some (.int .i64 s.read) := blk_cell B1.out 6
  have q0 : W0.cell? ⟨w.heap.size + 1, 0, none⟩ = some (.slice tA' s'.texts.length tc') := blk_cell B2.out 0
  have q1 : W0.cell? ⟨w.heap.size + 1, 1, none⟩ = some (.slice oA' s'.objs.length oc') := blk_cell B2.out 1
  have q2 : W0.cell? ⟨w.heap.size + 1, 2, none⟩ = some (.slice bA' s'.fibers.length bc') := blk_cell B2.out 2
  have q3 : W0.cell? ⟨w.heap.size + 1, 3, none⟩ = some (.int .i64 s'.cur) := blk_cell B2.out 3
  have q4 : W0.cell? ⟨w.heap.size + 1, 4, none⟩ = some (.int .i64 s'.steps) := blk_cell B2.out 4
  have q5 : W0.cell? ⟨w.heap.size + 1, 5, none⟩ = some (.int .i64 s'.spent) := blk_cell B2.out 5
  have q6 : W0.cell? ⟨w.heap.size + 1, 6, none⟩ = some (.int .i64 s'.read) := blk_cell B2.out 6
  refine start_ (n := 6) (S := fun w' => w'.cell? ⟨w.heap.size, 0, none⟩ = some (.slice tA s.texts.length tc) ∧ w'.cell? ⟨w.heap.size, 1, none⟩ = some (.slice oA s.objs.length oc) ∧ w'.cell? ⟨w.heap.size, 2, none⟩ = some (.slice bA s.fibers.length bc) ∧ w'.cell? ⟨w.heap.size, 3, none⟩ = some (.int .i64 s.cur) ∧ w'.cell? ⟨w.heap.size, 4, none⟩ = some (.int .i64 s.steps) ∧ w'.cell? ⟨w.heap.size, 5, none⟩ = some (.int .i64 s.spent) ∧ w'.cell? ⟨w.heap.size, 6, none⟩ = some (.int .i64 s.read) ∧ w'.cell? ⟨w.heap.size + 1, 0, none⟩ = some (.slice tA' s'.texts.length tc') ∧ w'.cell? ⟨w.heap.size + 1, 1, none⟩ = some (.slice oA' s'.objs.length oc') ∧ w'.cell? ⟨w.heap.size + 1, 2, none⟩ = some (.slice bA' s'.fibers.length bc') ∧ w'.cell? ⟨w.heap.size + 1, 3, none⟩ = some (.int .i64 s'.cur) ∧ w'.cell? ⟨w.heap.size + 1, 4, none⟩ = some (.int .i64 s'.steps) ∧ w'.cell? ⟨w.heap.size + 1, 5, none⟩ = some (.int .i64 s'.spent) ∧ w'.cell? ⟨w.heap.size + 1, 6, none⟩ = some (.int .i64 s'.read)) (ds := [4, 5]) #[false, false, false, false, false, false] (by kernel_rfl) rfl rfl ⟨p0, p1, p2, p3, p4, p5, p6, q0, q1, q2, q3, q4, q5, q6⟩ (fun hHeld => ?_)
  refine take_ (i := 0) (N := some 5) (v := ?_) (a' := ?_) #[true, false, false, false, false, false] rfl rfl (by kernel_rfl) (fun _ _ _ h => h) (Or.inl ⟨by rfl, ?_⟩) hHeld ?_ ?_
  rotate_left
  · rintro w' ⟨s0, s1, s2, s3, s4, s5, s6, s7, s8, s9, s10, s11, s12, s13⟩
    go_simp
    with_reducible rfl
  rotate_left
  · simp only [Act.put, List.setIfInBounds_toArray, List.set_cons_zero, List.set_cons_succ, i64_w, i32_w]
    rfl
  refine take_ (i := 2) (N := some 7) (v := ?_) (a' := ?_) #[true, false, true, false, false, false] rfl rfl (by kernel_rfl) (fun _ _ _ h => h) (Or.inl ⟨by rfl, ?_⟩) hHeld ?_ ?_
  rotate_left
  · rintro w' ⟨s0, s1, s2, s3, s4, s5, s6, s7, s8, s9, s10, s11, s12, s13⟩
    go_simp
    with_reducible rfl
  rotate_left
  · simp only [Act.put, List.setIfInBounds_toArray, List.set_cons_zero, List.set_cons_succ, i64_w, i32_w]
    rfl
  refine one_ (i := 1) (N := some 6) #[true, true, true, false, false, false] rfl rfl (by kernel_rfl) (by decide) (fun K hK => ?_)
  refine goes_ Try.func21 (by kernel_rfl) rfl #[.agg #[.slice tA s.texts.length tc, .slice oA s.objs.length oc, .slice bA s.fibers.length bc, .int .i64 s.cur, .int .i64 s.steps, .int .i64 s.spent, .int .i64 s.read]] (by rfl) rfl rfl (by simp only [List.map_toArray, List.map_cons, List.map_nil]; rfl) ?_
  with_reducible refine (st_Canon W0.drew tA oA bA tc oc bc s ros rbs L (hV.out.below (hz0d.out.below (fun _ _ h => h))) hS.out hD.out).mono ?_
  rintro e w1 ⟨⟨P1, Pn1, Pc1⟩, ⟨P2, Pn2, Pc2⟩, ⟨P3, Pn3, Pc3⟩, Pro, PZ, rfl, hP, hc1⟩
  obtain rfl : Pn1 = (CanonQ s).texts.length := (hP.t.len).1
  obtain rfl : Pn2 = (CanonQ s).objs.length := (hP.o.len).1.trans hP.oc.1
  obtain rfl : Pn3 = (CanonQ s).fibers.length := (hP.b.len).1.trans (by rw [List.length_map]; exact hP.bc.1)
  refine ⟨.agg #[.slice P1 (CanonQ s).texts.length Pc1, .slice P2 (CanonQ s).objs.length Pc2, .slice P3 (CanonQ s).fibers.length Pc3, .int .i64 s.cur, .int .i64 s.steps, .int .i64 s.spent, .int .i64 s.read], rfl, ?_⟩
  have h01 : Aside0 (Chg (fun _ => False) w w1) := ⟨hz0d.out.trans hc1 (fun _ _ h => h)⟩
  have b11 := Aside0.mk ((hzd.out.trans hc1 (fun _ _ h => h)).blk B1.out (fun h => h))
  have b12 := Aside0.mk ((hzd.out.trans hc1 (fun _ _ h => h)).blk B2.out (fun h => h))
  replace hP := Aside0.mk hP
  replace hc1 := Aside0.mk hc1
  refine hK.out _ _ ⟨(blk_cell b11.out 0), (blk_cell b11.out 1), (blk_cell b11.out 2), (blk_cell b11.out 3), (blk_cell b11.out 4), (blk_cell b11.out 5), (blk_cell b11.out 6), (blk_cell b12.out 0), (blk_cell b12.out 1), (blk_cell b12.out 2), (blk_cell b12.out 3), (blk_cell b12.out 4), (blk_cell b12.out 5), (blk_cell b12.out 6)⟩ (fun hHeld => ?_)
  clear hK K
  refine norm_ (a' := ?_) ?_ ?_
  rotate_left
  · show Act.put _ (some 6) _ = _
    simp only [Act.put, List.setIfInBounds_toArray, List.set_cons_zero, List.set_cons_succ, i64_w, i32_w]
    rfl
  refine one_ (i := 3) (N := some 8) #[true, true, true, true, false, false] rfl rfl (by kernel_rfl) (by decide) (fun K hK => ?_)
  refine goes_ Try.func21 (by kernel_rfl) rfl #[.agg #[.slice tA' s'.texts.length tc', .slice oA' s'.objs.length oc', .slice bA' s'.fibers.length bc', .int .i64 s'.cur, .int .i64 s'.steps, .int .i64 s'.spent, .int .i64 s'.read]] (by rfl) rfl rfl (by simp only [List.map_toArray, List.map_cons, List.map_nil]; rfl) ?_
  with_reducible refine (st_Canon w1 tA' oA' bA' tc' oc' bc' s' ros' rbs' L' (hV2.out.below (h01.out.below (fun _ _ h => h))) hS2.out hD2.out).mono ?_
  rintro e w2 ⟨⟨Q1, Qn1, Qc1⟩, ⟨Q2, Qn2, Qc2⟩, ⟨Q3, Qn3, Qc3⟩, Qro, QZ, rfl, hQ, hc2⟩
  obtain rfl : Qn1 = (CanonQ s').texts.length := (hQ.t.len).1
  obtain rfl : Qn2 = (CanonQ s').objs.length := (hQ.o.len).1.trans hQ.oc.1
  obtain rfl : Qn3 = (CanonQ s').fibers.length := (hQ.b.len).1.trans (by rw [List.length_map]; exact hQ.bc.1)
  refine ⟨.agg #[.slice Q1 (CanonQ s').texts.length Qc1, .slice Q2 (CanonQ s').objs.length Qc2, .slice Q3 (CanonQ s').fibers.length Qc3, .int .i64 s'.cur, .int .i64 s'.steps, .int .i64 s'.spent, .int .i64 s'.read], rfl, ?_⟩
  have h02 : Aside0 (Chg (fun _ => False) w w2) := ⟨h01.out.trans hc2 (fun _ _ h => h)⟩
  have b21 := Aside0.mk (hc2.blk b11.out (fun h => h))
  have b22 := Aside0.mk (hc2.blk b12.out (fun h => h))
  have hPv := Aside0.mk (hP.out.view.below (hc2.below (fun _ _ h => h)))
  have hQv := Aside0.mk hQ.view
  simp only at hPv hQv
  have hP2 := Aside0.mk (hP.out.hit hc2 Hits.no)
  replace hQ := Aside0.mk hQ
  have f0 : w2.frozen? ⟨w.heap.size, 0, none⟩ = false := blk_frozen b21.out 0
  have f1 : w2.frozen? ⟨w.heap.size, 1, none⟩ = false := blk_frozen b21.out 1
  have f2 : w2.frozen? ⟨w.heap.size, 2, none⟩ = false := blk_frozen b21.out 2
  have f3 : w2.frozen? ⟨w.heap.size, 3, none⟩ = false := blk_frozen b21.out 3
  have f4 : w2.frozen? ⟨w.heap.size, 4, none⟩ = false := blk_frozen b21.out 4
  have f5 : w2.frozen? ⟨w.heap.size, 5, none⟩ = false := blk_frozen b21.out 5
  have f6 : w2.frozen? ⟨w.heap.size, 6, none⟩ = false := blk_frozen b21.out 6
  have g0 : w2.frozen? ⟨w.heap.size + 1, 0, none⟩ = false := blk_frozen b22.out 0
  have g1 : w2.frozen? ⟨w.heap.size + 1, 1, none⟩ = false := blk_frozen b22.out 1
  have g2 : w2.frozen? ⟨w.heap.size + 1, 2, none⟩ = false := blk_frozen b22.out 2
  have g3 : w2.frozen? ⟨w.heap.size + 1, 3, none⟩ = false := blk_frozen b22.out 3
  have g4 : w2.frozen? ⟨w.heap.size + 1, 4, none⟩ = false := blk_frozen b22.out 4
  have g5 : w2.frozen? ⟨w.heap.size + 1, 5, none⟩ = false := blk_frozen b22.out 5
  have g6 : w2.frozen? ⟨w.heap.size + 1, 6, none⟩ = false := blk_frozen b22.out 6
  have c0 : w2.cell? ⟨w.heap.size, 0, none⟩ = some (.slice tA s.texts.length tc) := blk_cell b21.out 0
  have c1 : w2.cell? ⟨w.heap.size, 1, none⟩ = some (.slice oA s.objs.length oc) := blk_cell b21.out 1
  have c2 : w2.cell? ⟨w.heap.size, 2, none⟩ = some (.slice bA s.fibers.length bc) := blk_cell b21.out 2
  have c3 : w2.cell? ⟨w.heap.size, 3, none⟩ = some (.int .i64 s.cur) := blk_cell b21.out 3
  have c4 : w2.cell? ⟨w.heap.size, 4, none⟩ = some (.int .i64 s.steps) := blk_cell b21.out 4
  have c5 : w2.cell? ⟨w.heap.size, 5, none⟩ = some (.int .i64 s.spent) := blk_cell b21.out 5
  have c6 : w2.cell? ⟨w.heap.size, 6, none⟩ = some (.int .i64 s.read) := blk_cell b21.out 6
  have d0 : w2.cell? ⟨w.heap.size + 1, 0, none⟩ = some (.slice tA' s'.texts.length tc') := blk_cell b22.out 0
  have d1 : w2.cell? ⟨w.heap.size + 1, 1, none⟩ = some (.slice oA' s'.objs.length oc') := blk_cell b22.out 1
  have d2 : w2.cell? ⟨w.heap.size + 1, 2, none⟩ = some (.slice bA' s'.fibers.length bc') := blk_cell b22.out 2
  have d3 : w2.cell? ⟨w.heap.size + 1, 3, none⟩ = some (.int .i64 s'.cur) := blk_cell b22.out 3
  have d4 : w2.cell? ⟨w.heap.size + 1, 4, none⟩ = some (.int .i64 s'.steps) := blk_cell b22.out 4
  have d5 : w2.cell? ⟨w.heap.size + 1, 5, none⟩ = some (.int .i64 s'.spent) := blk_cell b22.out 5
  have d6 : w2.cell? ⟨w.heap.size + 1, 6, none⟩ = some (.int .i64 s'.read) := blk_cell b22.out 6
  refine hK.out _ _ ⟨(blk_cell b21.out 0), (blk_cell b21.out 1), (blk_cell b21.out 2), (blk_cell b21.out 3), (blk_cell b21.out 4), (blk_cell b21.out 5), (blk_cell b21.out 6), (blk_cell b22.out 0), (blk_cell b22.out 1), (blk_cell b22.out 2), (blk_cell b22.out 3), (blk_cell b22.out 4), (blk_cell b22.out 5), (blk_cell b22.out 6)⟩ (fun hHeld => ?_)
  clear hK K
  refine norm_ (a' := ?_) ?_ ?_
  rotate_left
  · show Act.put _ (some 8) _ = _
    simp only [Act.put, List.setIfInBounds_toArray, List.set_cons_zero, List.set_cons_succ, i64_w, i32_w]
    rfl
  refine last_ (i := 4) (N := none) #[true, true, true, true, true, false] rfl rfl (by kernel_rfl) (by decide) (fun K hK => ?_)
  refine skip_ (w1 := ?_) (by rfl) rfl ?_ ?_
  rotate_left
  · go_simp
    rfl
  refine hK.out _ _ ?_
  clear hK K
  have e1 : Chg (fun j => j = w.heap.size) w2 (((((((w2.setCell ⟨w.heap.size, 0, none⟩ (.slice P1 (CanonQ s).texts.length Pc1)).setCell ⟨w.heap.size, 1, none⟩ (.slice P2 (CanonQ s).objs.length Pc2)).setCell ⟨w.heap.size, 2, none⟩ (.slice P3 (CanonQ s).fibers.length Pc3)).setCell ⟨w.heap.size, 3, none⟩ (.int .i64 s.cur)).setCell ⟨w.heap.size, 4, none⟩ (.int .i64 s.steps)).setCell ⟨w.heap.size, 5, none⟩ (.int .i64 s.spent)).setCell ⟨w.heap.size, 6, none⟩ (.int .i64 s.read)) := ((((((((Chg.refl (fun j => j = w.heap.size) w2).setCell (p := ⟨w.heap.size, 0, none⟩) (fun _ => rfl) _).setCell (p := ⟨w.heap.size, 1, none⟩) (fun _ => rfl) _).setCell (p := ⟨w.heap.size, 2, none⟩) (fun _ => rfl) _).setCell (p := ⟨w.heap.size, 3, none⟩) (fun _ => rfl) _).setCell (p := ⟨w.heap.size, 4, none⟩) (fun _ => rfl) _).setCell (p := ⟨w.heap.size, 5, none⟩) (fun _ => rfl) _).setCell (p := ⟨w.heap.size, 6, none⟩) (fun _ => rfl) _)
  have k1' := (blk_set (blk_set (blk_set (blk_set (blk_set (blk_set (blk_set b21.out 0 (.slice P1 (CanonQ s).texts.length Pc1)) 1 (.slice P2 (CanonQ s).objs.length Pc2)) 2 (.slice P3 (CanonQ s).fibers.length Pc3)) 3 (.int .i64 s.cur)) 4 (.int .i64 s.steps)) 5 (.int .i64 s.spent)) 6 (.int .i64 s.read))
  have k2' := e1.blk b22.out (fun h => by omega)
  have hlo : w.heap.size + 1 < W0.drew.heap.size := hgt
  have hlo1 := h01.out.size
  have hlo2 : w.heap.size + 1 < w1.heap.size := blk_lt b12.out
  have hP3 := hP2.out.hit e1 (Hits.old (fun b hb => by omega))
  have hQ3 := hQ.out.hit e1 (Hits.old (fun b hb => by omega))
  have h03 := h02.out.trans e1 (fun b hb h => by omega)
  generalize hW3 : (((((((w2.setCell ⟨w.heap.size, 0, none⟩ (.slice P1 (CanonQ s).texts.length Pc1)).setCell ⟨w.heap.size, 1, none⟩ (.slice P2 (CanonQ s).objs.length Pc2)).setCell ⟨w.heap.size, 2, none⟩ (.slice P3 (CanonQ s).fibers.length Pc3)).setCell ⟨w.heap.size, 3, none⟩ (.int .i64 s.cur)).setCell ⟨w.heap.size, 4, none⟩ (.int .i64 s.steps)).setCell ⟨w.heap.size, 5, none⟩ (.int .i64 s.spent)).setCell ⟨w.heap.size, 6, none⟩ (.int .i64 s.read)) = W3 at e1 k1' k2' hP3 hQ3 h03 ⊢
  simp only [List.setIfInBounds_toArray, List.set_cons_zero, List.set_cons_succ] at k1'
  clear hW3 hHeld f0 f1 f2 f3 f4 f5 f6 g0 g1 g2 g3 g4 g5 g6 c0 c1 c2 c3 c4 c5 c6 d0 d1 d2 d3 d4 d5 d6
  have d0 : W3.cell? ⟨w.heap.size + 1, 0, none⟩ = some (.slice tA' s'.texts.length tc') := blk_cell k2' 0
  have d1 : W3.cell? ⟨w.heap.size + 1, 1, none⟩ = some (.slice oA' s'.objs.length oc') := blk_cell k2' 1
  have d2 : W3.cell? ⟨w.heap.size + 1, 2, none⟩ = some (.slice bA' s'.fibers.length bc') := blk_cell k2' 2
  have d3 : W3.cell? ⟨w.heap.size + 1, 3, none⟩ = some (.int .i64 s'.cur) := blk_cell k2' 3
  have d4 : W3.cell? ⟨w.heap.size + 1, 4, none⟩ = some (.int .i64 s'.steps) := blk_cell k2' 4
  have d5 : W3.cell? ⟨w.heap.size + 1, 5, none⟩ = some (.int .i64 s'.spent) := blk_cell k2' 5
  have d6 : W3.cell? ⟨w.heap.size + 1, 6, none⟩ = some (.int .i64 s'.read) := blk_cell k2' 6
  have g0 : W3.frozen? ⟨w.heap.size + 1, 0, none⟩ = false := blk_frozen k2' 0
  have g1 : W3.frozen? ⟨w.heap.size + 1, 1, none⟩ = false := blk_frozen k2' 1
  have g2 : W3.frozen? ⟨w.heap.size + 1, 2, none⟩ = false := blk_frozen k2' 2
  have g3 : W3.frozen? ⟨w.heap.size + 1, 3, none⟩ = false := blk_frozen k2' 3
  have g4 : W3.frozen? ⟨w.heap.size + 1, 4, none⟩ = false := blk_frozen k2' 4
  have g5 : W3.frozen? ⟨w.heap.size + 1, 5, none⟩ = false := blk_frozen k2' 5
  have g6 : W3.frozen? ⟨w.heap.size + 1, 6, none⟩ = false := blk_frozen k2' 6
  refine last_ (i := 5) (N := none) #[true, true, true, true, true, true] rfl rfl (by kernel_rfl) (by decide) (fun K hK => ?_)
  refine skip_ (w1 := ?_) (by rfl) rfl ?_ ?_
  rotate_left
  · go_simp
    rfl
  refine hK.out _ _ ?_
  clear hK K
  refine done_ (by kernel_rfl) ?_
  
  have e2 : Chg (fun j => j = w.heap.size + 1) W3 (((((((W3.setCell ⟨w.heap.size + 1, 0, none⟩ (.slice Q1 (CanonQ s').texts.length Qc1)).setCell ⟨w.heap.size + 1, 1, none⟩ (.slice Q2 (CanonQ s').objs.length Qc2)).setCell ⟨w.heap.size + 1, 2, none⟩ (.slice Q3 (CanonQ s').fibers.length Qc3)).setCell ⟨w.heap.size + 1, 3, none⟩ (.int .i64 s'.cur)).setCell ⟨w.heap.size + 1, 4, none⟩ (.int .i64 s'.steps)).setCell ⟨w.heap.size + 1, 5, none⟩ (.int .i64 s'.spent)).setCell ⟨w.heap.size + 1, 6, none⟩ (.int .i64 s'.read)) := ((((((((Chg.refl (fun j => j = w.heap.size + 1) W3).setCell (p := ⟨w.heap.size + 1, 0, none⟩) (fun _ => rfl) _).setCell (p := ⟨w.heap.size + 1, 1, none⟩) (fun _ => rfl) _).setCell (p := ⟨w.heap.size + 1, 2, none⟩) (fun _ => rfl) _).setCell (p := ⟨w.heap.size + 1, 3, none⟩) (fun _ => rfl) _).setCell (p := ⟨w.heap.size + 1, 4, none⟩) (fun _ => rfl) _).setCell (p := ⟨w.heap.size + 1, 5, none⟩) (fun _ => rfl) _).setCell (p := ⟨w.heap.size + 1, 6, none⟩) (fun _ => rfl) _)
  have k1 := e2.blk k1' (fun h => by omega)
  have k2 := (blk_set (blk_set (blk_set (blk_set (blk_set (blk_set (blk_set k2' 0 (.slice Q1 (CanonQ s').texts.length Qc1)) 1 (.slice Q2 (CanonQ s').objs.length Qc2)) 2 (.slice Q3 (CanonQ s').fibers.length Qc3)) 3 (.int .i64 s'.cur)) 4 (.int .i64 s'.steps)) 5 (.int .i64 s'.spent)) 6 (.int .i64 s'.read))
  have hP4 := hP3.hit e2 (Hits.old (fun b hb => by omega))
  have hQ4 := hQ3.hit e2 (Hits.old (fun b hb => by omega))
  have h0W' := h03.trans e2 (fun b hb h => by omega)
  generalize hW4 : (((((((W3.setCell ⟨w.heap.size + 1, 0, none⟩ (.slice Q1 (CanonQ s').texts.length Qc1)).setCell ⟨w.heap.size + 1, 1, none⟩ (.slice Q2 (CanonQ s').objs.length Qc2)).setCell ⟨w.heap.size + 1, 2, none⟩ (.slice Q3 (CanonQ s').fibers.length Qc3)).setCell ⟨w.heap.size + 1, 3, none⟩ (.int .i64 s'.cur)).setCell ⟨w.heap.size + 1, 4, none⟩ (.int .i64 s'.steps)).setCell ⟨w.heap.size + 1, 5, none⟩ (.int .i64 s'.spent)).setCell ⟨w.heap.size + 1, 6, none⟩ (.int .i64 s'.read)) = W4 at e2 k1 k2 hP4 hQ4 h0W' ⊢
  simp only [List.setIfInBounds_toArray, List.set_cons_zero, List.set_cons_succ] at k2
  clear d0 d1 d2 d3 d4 d5 d6 g0 g1 g2 g3 g4 g5 g6
  clear hW4 k1' k2' hP3 hQ3 h03 e1 e2 hP2 hQ hPv hQv h02 h01 hc1 b11 b12 b21 b22 hP
  replace k1 := Aside0.mk k1
  replace k2 := Aside0.mk k2
  have h0W := Aside0.mk h0W'
  have hPw := Aside0.mk hP4.view
  have hQw := Aside0.mk hQ4.view
  have hPl := Aside0.mk hP4.oc.1
  have hQl := Aside0.mk hQ4.oc.1
  simp only at hPw hQw
  clear hP4 hQ4 h0W' p0 p1 p2 p3 p4 p5 p6 q0 q1 q2 q3 q4 q5 q6
  have p0 : W4.cell? ⟨w.heap.size, 0, none⟩ = some (.slice P1 (CanonQ s).texts.length Pc1) := blk_cell k1.out 0
  have p1 : W4.cell? ⟨w.heap.size, 1, none⟩ = some (.slice P2 (CanonQ s).objs.length Pc2) := blk_cell k1.out 1
  have p2 : W4.cell? ⟨w.heap.size, 2, none⟩ = some (.slice P3 (CanonQ s).fibers.length Pc3) := blk_cell k1.out 2
  have p3 : W4.cell? ⟨w.heap.size, 3, none⟩ = some (.int .i64 s.cur) := blk_cell k1.out 3
  have p4 : W4.cell? ⟨w.heap.size, 4, none⟩ = some (.int .i64 s.steps) := blk_cell k1.out 4
  have p5 : W4.cell? ⟨w.heap.size, 5, none⟩ = some (.int .i64 s.spent) := blk_cell k1.out 5
  have p6 : W4.cell? ⟨w.heap.size, 6, none⟩ = some (.int .i64 s.read) := blk_cell k1.out 6
  have q0 : W4.cell? ⟨w.heap.size + 1, 0, none⟩ = some (.slice Q1 (CanonQ s').texts.length Qc1) := blk_cell k2.out 0
  have q1 : W4.cell? ⟨w.heap.size + 1, 1, none⟩ = some (.slice Q2 (CanonQ s').objs.length Qc2) := blk_cell k2.out 1
  have q2 : W4.cell? ⟨w.heap.size + 1, 2, none⟩ = some (.slice Q3 (CanonQ s').fibers.length Qc3) := blk_cell k2.out 2
  have q3 : W4.cell? ⟨w.heap.size + 1, 3, none⟩ = some (.int .i64 s'.cur) := blk_cell k2.out 3
  have q4 : W4.cell? ⟨w.heap.size + 1, 4, none⟩ = some (.int .i64 s'.steps) := blk_cell k2.out 4
  have q5 : W4.cell? ⟨w.heap.size + 1, 5, none⟩ = some (.int .i64 s'.spent) := blk_cell k2.out 5
  have q6 : W4.cell? ⟨w.heap.size + 1, 6, none⟩ = some (.int .i64 s'.read) := blk_cell k2.out 6
  by_cases h_cur : s.cur = s'.cur
  · have m_cur : (s.cur == s'.cur) = true := by simpa using h_cur
    by_cases h_steps : s.steps = s'.steps
    · have m_steps : (s.steps == s'.steps) = true := by simpa using h_steps
      by_cases h_spent : s.spent = s'.spent
      · have m_spent : (s.spent == s'.spent) = true := by simpa using h_spent
        by_cases h_read : s.read = s'.read
        · have m_read : (s.read == s'.read) = true := by simpa using h_read
          have hAll : Aside0 (s.cur = s'.cur ∧ s.steps = s'.steps ∧ s.spent = s'.spent ∧ s.read = s'.read) := ⟨⟨h_cur, h_steps, h_spent, h_read⟩⟩
          clear h_cur h_steps h_spent h_read
          by_cases h_t : (CanonQ s).texts = (CanonQ s').texts
          · replace h_t := Aside0.mk h_t
            by_cases h_o : (CanonQ s).objs = (CanonQ s').objs
            · replace h_o := Aside0.mk h_o
              by_cases h_b : (CanonQ s).fibers = (CanonQ s').fibers
              · replace h_b := Aside0.mk h_b
                go_wp2_with (first | (go_at_call 74; go_must (refine (told_yes (eq_Texts _ P1 Q1 _ _ Pc1 Qc1 (CanonQ s).texts (CanonQ s').texts (hPw.out.below bl).ts (hQw.out.below bl).ts) h_t.out).mono ?_); go_must (rintro e w11 ⟨rfl, hc11⟩); go_must (replace hc11 := Aside0.mk hc11); go_must (have p11_0 : w11.cell? ⟨w.heap.size, 1, none⟩ = some (.slice P2 (CanonQ s).objs.length Pc2) := blk_cell (cs := #[.slice P1 (CanonQ s).texts.length Pc1, .slice P2 (CanonQ s).objs.length Pc2, .slice P3 (CanonQ s).fibers.length Pc3, .int .i64 s.cur, .int .i64 s.steps, .int .i64 s.spent, .int .i64 s.read]) (t := 40) bk 1); go_must (have p11_1 : w11.cell? ⟨w.heap.size + 1, 1, none⟩ = some (.slice Q2 (CanonQ s').objs.length Qc2) := blk_cell (cs := #[.slice Q1 (CanonQ s').texts.length Qc1, .slice Q2 (CanonQ s').objs.length Qc2, .slice Q3 (CanonQ s').fibers.length Qc3, .int .i64 s'.cur, .int .i64 s'.steps, .int .i64 s'.spent, .int .i64 s'.read]) (t := 40) bk 1); go_must (have p11_2 : w11.cell? ⟨w.heap.size, 2, none⟩ = some (.slice P3 (CanonQ s).fibers.length Pc3) := blk_cell (cs := #[.slice P1 (CanonQ s).texts.length Pc1, .slice P2 (CanonQ s).objs.length Pc2, .slice P3 (CanonQ s).fibers.length Pc3, .int .i64 s.cur, .int .i64 s.steps, .int .i64 s.spent, .int .i64 s.read]) (t := 40) bk 2); go_must (have p11_3 : w11.cell? ⟨w.heap.size + 1, 2, none⟩ = some (.slice Q3 (CanonQ s').fibers.length Qc3) := blk_cell (cs := #[.slice Q1 (CanonQ s').texts.length Qc1, .slice Q2 (CanonQ s').objs.length Qc2, .slice Q3 (CanonQ s').fibers.length Qc3, .int .i64 s'.cur, .int .i64 s'.steps, .int .i64 s'.spent, .int .i64 s'.read]) (t := 40) bk 2)) | (go_at_call 75; go_must (refine (told_yes (eqf_Objects _ P2 Q2 _ _ Pc2 Qc2 Pro Qro (CanonQ s).objs (CanonQ s').objs (hPw.out.below bl).os (hQw.out.below bl).os hPl.out hQl.out (hPw.out.below bl).ro (hQw.out.below bl).ro) h_o.out).mono ?_); go_must (rintro e w12 ⟨rfl, hc12⟩); go_must (replace hc12 := Aside0.mk hc12); go_must (have p12_0 : w12.cell? ⟨w.heap.size, 2, none⟩ = some (.slice P3 (CanonQ s).fibers.length Pc3) := blk_cell (cs := #[.slice P1 (CanonQ s).texts.length Pc1, .slice P2 (CanonQ s).objs.length Pc2, .slice P3 (CanonQ s).fibers.length Pc3, .int .i64 s.cur, .int .i64 s.steps, .int .i64 s.spent, .int .i64 s.read]) (t := 40) bk 2); go_must (have p12_1 : w12.cell? ⟨w.heap.size + 1, 2, none⟩ = some (.slice Q3 (CanonQ s').fibers.length Qc3) := blk_cell (cs := #[.slice Q1 (CanonQ s').texts.length Qc1, .slice Q2 (CanonQ s').objs.length Qc2, .slice Q3 (CanonQ s').fibers.length Qc3, .int .i64 s'.cur, .int .i64 s'.steps, .int .i64 s'.spent, .int .i64 s'.read]) (t := 40) bk 2)) | (go_at_call 77; go_must (refine (told_yes (eqf_Fibers _ P3 Q3 _ _ Pc3 Qc3 ((PZ.map (·.1)).zip (PZ.map (·.2))) ((QZ.map (·.1)).zip (QZ.map (·.2))) (CanonQ s).fibers (CanonQ s').fibers (hPw.out.below bl).zip.2.2 (hQw.out.below bl).zip.2.2 (hPw.out.below bl).zip.1 (hQw.out.below bl).zip.1 (hPw.out.below bl).zip.2.1 (hQw.out.below bl).zip.2.1) h_b.out).mono ?_); go_must (rintro e w13 ⟨rfl, hc13⟩); go_must (replace hc13 := Aside0.mk hc13)))
                go_ret
                exact ⟨true, rfl, ⟨fun _ => canon_ext h_t.out h_o.out h_b.out hAll.out.1 hAll.out.2.1 hAll.out.2.2.1 hAll.out.2.2.2, fun _ => rfl⟩, h0W.out.trans cg (fun _ _ h => h)⟩
              · replace h_b := Aside0.mk h_b
                go_wp2_with (first | (go_at_call 74; go_must (refine (told_yes (eq_Texts _ P1 Q1 _ _ Pc1 Qc1 (CanonQ s).texts (CanonQ s').texts (hPw.out.below bl).ts (hQw.out.below bl).ts) h_t.out).mono ?_); go_must (rintro e w11 ⟨rfl, hc11⟩); go_must (replace hc11 := Aside0.mk hc11); go_must (have p11_0 : w11.cell? ⟨w.heap.size, 1, none⟩ = some (.slice P2 (CanonQ s).objs.length Pc2) := blk_cell (cs := #[.slice P1 (CanonQ s).texts.length Pc1, .slice P2 (CanonQ s).objs.length Pc2, .slice P3 (CanonQ s).fibers.length Pc3, .int .i64 s.cur, .int .i64 s.steps, .int .i64 s.spent, .int .i64 s.read]) (t := 40) bk 1); go_must (have p11_1 : w11.cell? ⟨w.heap.size + 1, 1, none⟩ = some (.slice Q2 (CanonQ s').objs.length Qc2) := blk_cell (cs := #[.slice Q1 (CanonQ s').texts.length Qc1, .slice Q2 (CanonQ s').objs.length Qc2, .slice Q3 (CanonQ s').fibers.length Qc3, .int .i64 s'.cur, .int .i64 s'.steps, .int .i64 s'.spent, .int .i64 s'.read]) (t := 40) bk 1); go_must (have p11_2 : w11.cell? ⟨w.heap.size, 2, none⟩ = some (.slice P3 (CanonQ s).fibers.length Pc3) := blk_cell (cs := #[.slice P1 (CanonQ s).texts.length Pc1, .slice P2 (CanonQ s).objs.length Pc2, .slice P3 (CanonQ s).fibers.length Pc3, .int .i64 s.cur, .int .i64 s.steps, .int .i64 s.spent, .int .i64 s.read]) (t := 40) bk 2); go_must (have p11_3 : w11.cell? ⟨w.heap.size + 1, 2, none⟩ = some (.slice Q3 (CanonQ s').fibers.length Qc3) := blk_cell (cs := #[.slice Q1 (CanonQ s').texts.length Qc1, .slice Q2 (CanonQ s').objs.length Qc2, .slice Q3 (CanonQ s').fibers.length Qc3, .int .i64 s'.cur, .int .i64 s'.steps, .int .i64 s'.spent, .int .i64 s'.read]) (t := 40) bk 2)) | (go_at_call 75; go_must (refine (told_yes (eqf_Objects _ P2 Q2 _ _ Pc2 Qc2 Pro Qro (CanonQ s).objs (CanonQ s').objs (hPw.out.below bl).os (hQw.out.below bl).os hPl.out hQl.out (hPw.out.below bl).ro (hQw.out.below bl).ro) h_o.out).mono ?_); go_must (rintro e w12 ⟨rfl, hc12⟩); go_must (replace hc12 := Aside0.mk hc12); go_must (have p12_0 : w12.cell? ⟨w.heap.size, 2, none⟩ = some (.slice P3 (CanonQ s).fibers.length Pc3) := blk_cell (cs := #[.slice P1 (CanonQ s).texts.length Pc1, .slice P2 (CanonQ s).objs.length Pc2, .slice P3 (CanonQ s).fibers.length Pc3, .int .i64 s.cur, .int .i64 s.steps, .int .i64 s.spent, .int .i64 s.read]) (t := 40) bk 2); go_must (have p12_1 : w12.cell? ⟨w.heap.size + 1, 2, none⟩ = some (.slice Q3 (CanonQ s').fibers.length Qc3) := blk_cell (cs := #[.slice Q1 (CanonQ s').texts.length Qc1, .slice Q2 (CanonQ s').objs.length Qc2, .slice Q3 (CanonQ s').fibers.length Qc3, .int .i64 s'.cur, .int .i64 s'.steps, .int .i64 s'.spent, .int .i64 s'.read]) (t := 40) bk 2)) | (go_at_call 77; go_must (refine (told_no (eqf_Fibers _ P3 Q3 _ _ Pc3 Qc3 ((PZ.map (·.1)).zip (PZ.map (·.2))) ((QZ.map (·.1)).zip (QZ.map (·.2))) (CanonQ s).fibers (CanonQ s').fibers (hPw.out.below bl).zip.2.2 (hQw.out.below bl).zip.2.2 (hPw.out.below bl).zip.1 (hQw.out.below bl).zip.1 (hPw.out.below bl).zip.2.1 (hQw.out.below bl).zip.2.1) h_b.out).mono ?_); go_must (rintro e w13 ⟨rfl, hc13⟩); go_must (replace hc13 := Aside0.mk hc13)))
                go_ret
                exact ⟨false, rfl, ⟨fun h => (by cases h), fun h => absurd (congrArg QS.fibers h) h_b.out⟩, h0W.out.trans cg (fun _ _ h => h)⟩
            · replace h_o := Aside0.mk h_o
              go_wp2_with (first | (go_at_call 74; go_must (refine (told_yes (eq_Texts _ P1 Q1 _ _ Pc1 Qc1 (CanonQ s).texts (CanonQ s').texts (hPw.out.below bl).ts (hQw.out.below bl).ts) h_t.out).mono ?_); go_must (rintro e w11 ⟨rfl, hc11⟩); go_must (replace hc11 := Aside0.mk hc11); go_must (have p11_0 : w11.cell? ⟨w.heap.size, 1, none⟩ = some (.slice P2 (CanonQ s).objs.length Pc2) := blk_cell (cs := #[.slice P1 (CanonQ s).texts.length Pc1, .slice P2 (CanonQ s).objs.length Pc2, .slice P3 (CanonQ s).fibers.length Pc3, .int .i64 s.cur, .int .i64 s.steps, .int .i64 s.spent, .int .i64 s.read]) (t := 40) bk 1); go_must (have p11_1 : w11.cell? ⟨w.heap.size + 1, 1, none⟩ = some (.slice Q2 (CanonQ s').objs.length Qc2) := blk_cell (cs := #[.slice Q1 (CanonQ s').texts.length Qc1, .slice Q2 (CanonQ s').objs.length Qc2, .slice Q3 (CanonQ s').fibers.length Qc3, .int .i64 s'.cur, .int .i64 s'.steps, .int .i64 s'.spent, .int .i64 s'.read]) (t := 40) bk 1); go_must (have p11_2 : w11.cell? ⟨w.heap.size, 2, none⟩ = some (.slice P3 (CanonQ s).fibers.length Pc3) := blk_cell (cs := #[.slice P1 (CanonQ s).texts.length Pc1, .slice P2 (CanonQ s).objs.length Pc2, .slice P3 (CanonQ s).fibers.length Pc3, .int .i64 s.cur, .int .i64 s.steps, .int .i64 s.spent, .int .i64 s.read]) (t := 40) bk 2); go_must (have p11_3 : w11.cell? ⟨w.heap.size + 1, 2, none⟩ = some (.slice Q3 (CanonQ s').fibers.length Qc3) := blk_cell (cs := #[.slice Q1 (CanonQ s').texts.length Qc1, .slice Q2 (CanonQ s').objs.length Qc2, .slice Q3 (CanonQ s').fibers.length Qc3, .int .i64 s'.cur, .int .i64 s'.steps, .int .i64 s'.spent, .int .i64 s'.read]) (t := 40) bk 2)) | (go_at_call 75; go_must (refine (told_no (eqf_Objects _ P2 Q2 _ _ Pc2 Qc2 Pro Qro (CanonQ s).objs (CanonQ s').objs (hPw.out.below bl).os (hQw.out.below bl).os hPl.out hQl.out (hPw.out.below bl).ro (hQw.out.below bl).ro) h_o.out).mono ?_); go_must (rintro e w12 ⟨rfl, hc12⟩); go_must (replace hc12 := Aside0.mk hc12); go_must (have p12_0 : w12.cell? ⟨w.heap.size, 2, none⟩ = some (.slice P3 (CanonQ s).fibers.length Pc3) := blk_cell (cs := #[.slice P1 (CanonQ s).texts.length Pc1, .slice P2 (CanonQ s).objs.length Pc2, .slice P3 (CanonQ s).fibers.length Pc3, .int .i64 s.cur, .int .i64 s.steps, .int .i64 s.spent, .int .i64 s.read]) (t := 40) bk 2); go_must (have p12_1 : w12.cell? ⟨w.heap.size + 1, 2, none⟩ = some (.slice Q3 (CanonQ s').fibers.length Qc3) := blk_cell (cs := #[.slice Q1 (CanonQ s').texts.length Qc1, .slice Q2 (CanonQ s').objs.length Qc2, .slice Q3 (CanonQ s').fibers.length Qc3, .int .i64 s'.cur, .int .i64 s'.steps, .int .i64 s'.spent, .int .i64 s'.read]) (t := 40) bk 2)))
              go_ret
              exact ⟨false, rfl, ⟨fun h => (by cases h), fun h => absurd (congrArg QS.objs h) h_o.out⟩, h0W.out.trans cg (fun _ _ h => h)⟩
          · replace h_t := Aside0.mk h_t
            go_wp2_with ((go_at_call 74; go_must (refine (told_no (eq_Texts _ P1 Q1 _ _ Pc1 Qc1 (CanonQ s).texts (CanonQ s').texts (hPw.out.below bl).ts (hQw.out.below bl).ts) h_t.out).mono ?_); go_must (rintro e w11 ⟨rfl, hc11⟩); go_must (replace hc11 := Aside0.mk hc11); go_must (have p11_0 : w11.cell? ⟨w.heap.size, 1, none⟩ = some (.slice P2 (CanonQ s).objs.length Pc2) := blk_cell (cs := #[.slice P1 (CanonQ s).texts.length Pc1, .slice P2 (CanonQ s).objs.length Pc2, .slice P3 (CanonQ s).fibers.length Pc3, .int .i64 s.cur, .int .i64 s.steps, .int .i64 s.spent, .int .i64 s.read]) (t := 40) bk 1); go_must (have p11_1 : w11.cell? ⟨w.heap.size + 1, 1, none⟩ = some (.slice Q2 (CanonQ s').objs.length Qc2) := blk_cell (cs := #[.slice Q1 (CanonQ s').texts.length Qc1, .slice Q2 (CanonQ s').objs.length Qc2, .slice Q3 (CanonQ s').fibers.length Qc3, .int .i64 s'.cur, .int .i64 s'.steps, .int .i64 s'.spent, .int .i64 s'.read]) (t := 40) bk 1); go_must (have p11_2 : w11.cell? ⟨w.heap.size, 2, none⟩ = some (.slice P3 (CanonQ s).fibers.length Pc3) := blk_cell (cs := #[.slice P1 (CanonQ s).texts.length Pc1, .slice P2 (CanonQ s).objs.length Pc2, .slice P3 (CanonQ s).fibers.length Pc3, .int .i64 s.cur, .int .i64 s.steps, .int .i64 s.spent, .int .i64 s.read]) (t := 40) bk 2); go_must (have p11_3 : w11.cell? ⟨w.heap.size + 1, 2, none⟩ = some (.slice Q3 (CanonQ s').fibers.length Qc3) := blk_cell (cs := #[.slice Q1 (CanonQ s').texts.length Qc1, .slice Q2 (CanonQ s').objs.length Qc2, .slice Q3 (CanonQ s').fibers.length Qc3, .int .i64 s'.cur, .int .i64 s'.steps, .int .i64 s'.spent, .int .i64 s'.read]) (t := 40) bk 2)))
            go_ret
            exact ⟨false, rfl, ⟨fun h => (by cases h), fun h => absurd (congrArg QS.texts h) h_t.out⟩, h0W.out.trans cg (fun _ _ h => h)⟩
        · have m_read : (s.read == s'.read) = false := by simpa using h_read
          replace h_read := Aside0.mk h_read
          go_wp2
          go_ret
          exact ⟨false, rfl, ⟨fun h => (by cases h), fun h => absurd (congrArg QS.read h) h_read.out⟩, h0W.out.trans cg (fun _ _ h => h)⟩
      · have m_spent : (s.spent == s'.spent) = false := by simpa using h_spent
        replace h_spent := Aside0.mk h_spent
        go_wp2
        go_ret
        exact ⟨false, rfl, ⟨fun h => (by cases h), fun h => absurd (congrArg QS.spent h) h_spent.out⟩, h0W.out.trans cg (fun _ _ h => h)⟩
    · have m_steps : (s.steps == s'.steps) = false := by simpa using h_steps
      replace h_steps := Aside0.mk h_steps
      go_wp2
      go_ret
      exact ⟨false, rfl, ⟨fun h => (by cases h), fun h => absurd (congrArg QS.steps h) h_steps.out⟩, h0W.out.trans cg (fun _ _ h => h)⟩
  · have m_cur : (s.cur == s'.cur) = false := by simpa using h_cur
    replace h_cur := Aside0.mk h_cur
    go_wp2
    go_ret
    exact ⟨false, rfl, ⟨fun h => (by cases h), fun h => absurd (congrArg QS.cur h) h_cur.out⟩, h0W.out.trans cg (fun _ _ h => h)⟩
end Go.Proofs.Ytdoghjmanogelaa.K
