import Derived.Test.YtdoghjmanogelaaSd
import Derived.IntWalk
import Derived.BigQuiet
import Derived.Laws.Rows
import Derived.Laws.Tables
namespace Go.Proofs.Ytdoghjmanogelaa.K
open Go.RowKit Go.Proofs.YtdoghjmanogelaaW.PrintWords Go.Proofs.YtdoghjmanogelaaW.PrintLast Go.Proofs.YtdoghjmanogelaaW.PrintMore
set_option linter.unusedVariables false
set_option linter.unusedSimpArgs false
set_option maxRecDepth 100000

/-- A state in memory of its own. -/
structure SOwn (w : World) (lo : Nat) (v1 v2 v3 : SV) (s : QS) (ros : List RO) (Z : List (RB × List RF)) : Prop where
  t : Ow Kd.string 9 w lo v1 s.texts
  o : Ow kRO 59 w lo v2 ros
  b : Ow kRB 51 w lo v3 (Z.map (·.1))
  oc : OC w lo ros s.objs
  bc : BC w lo Z s.fibers
  ba : BA Z
theorem SOwn.view {w : World} {lo : Nat} {v1 v2 v3 : SV} {s : QS} {ros : List RO} {Z : List (RB × List RF)} (h : SOwn w lo v1 v2 v3 s ros Z) : SView w v1.1 v2.1 v3.1 s ros (Z.map (·.1)) (Z.map (·.2)) := by
  have h1 := h.t.toC
  have h2 := h.o.toC
  have h3 := h.b.toC
  have e1 := h1.1
  have e2 := h2.1
  have e3 := h3.1
  have e4 := h.oc.1
  have e5 := h.bc.1
  rw [List.length_map] at e3
  rw [← e1] at h1
  rw [← e2, e4] at h2
  rw [← e3, e5] at h3
  refine ⟨h1, h2, h3, by rw [List.length_map, e5], fun k r x hr hx => ?_, fun k r l x hr hl hx => ?_⟩
  · obtain ⟨a1, a2, a3, a4, a5, a6⟩ := h.oc.2 k r x hr hx
    exact ⟨a1, a2, a3, a4, a5.toC, a6.toC⟩
  · rw [List.getElem?_map] at hr hl
    cases hz : Z[k]? with
    | none => rw [hz] at hr; cases hr
    | some z =>
      rw [hz, Option.map_some] at hr hl
      injection hr with hr
      injection hl with hl
      subst hr hl
      obtain ⟨b1, b2⟩ := h.bc.2 k z x hz hx
      refine ⟨b1.toC, b2.1, fun i q f hq hf => ?_⟩
      obtain ⟨c1, c2, c3⟩ := b2.2 i q f hq hf
      exact ⟨c1, c2, c3.toC⟩
/-- The sizes of a state. -/
structure SSmall (s : QS) : Prop where
  t : s.texts.length ≤ 1048576
  o : s.objs.length ≤ 1048576
  b : s.fibers.length ≤ 1048576
  oi : ∀ x ∈ s.objs, x.items.length ≤ 1048576 ∧ x.keys.length ≤ 1048576
  bf : ∀ x ∈ s.fibers, x.frames.length ≤ 1048576 ∧ ∀ y ∈ x.frames, y.slots.length ≤ 1048576
theorem zip_maps {α β : Type} {a : List α} {b : List β} (h : a.length = b.length) : (a.zip b).map (·.1) = a ∧ (a.zip b).map (·.2) = b := ⟨List.map_fst_zip (by omega), List.map_snd_zip (by omega)⟩
theorem SView.zip {w : World} {tA oA bA : Option Addr} {s : QS} {ros : List RO} {rbs : List RB} {L : List (List RF)} (h : SView w tA oA bA s ros rbs L) : (rbs.zip L).length = s.fibers.length ∧ (∀ (k : Nat) (z : RB × List RF) (x : QB), (rbs.zip L)[k]? = some z → s.fibers[k]? = some x → RawB w z.1 z.2 x) ∧ Kd.C kRB w bA s.fibers.length ((rbs.zip L).map (·.1)) := by
  have h1 := h.bs.1
  have h2 := h.ll
  refine ⟨by rw [List.length_zip]; omega, fun k z x hz hx => ?_, by rw [(zip_maps (by omega)).1]; exact h.bs⟩
  have hz' := List.getElem?_zip_eq_some.1 hz
  exact h.rb k z.1 z.2 x hz'.1 hz'.2 hx
set_option maxHeartbeats 4000000
theorem ref_CopyState (w : World) (tA oA bA : Option Addr) (tc oc bc : Nat) (s : QS) (ros : List RO) (rbs : List RB) (L : List (List RF)) (h : SView w tA oA bA s ros rbs L) (hs : SSmall s) :
    Calls Try.prog 24 #[.agg #[.slice tA s.texts.length tc, .slice oA s.objs.length oc, .slice bA s.fibers.length bc, .int .i64 s.cur, .int .i64 s.steps, .int .i64 s.spent, .int .i64 s.read]] w fun e w' => ∃ (v1 v2 v3 : SV) (ros' : List RO) (Z : List (RB × List RF)), e = .returned (.agg #[svl v1, svl v2, svl v3, .int .i64 s.cur, .int .i64 s.steps, .int .i64 s.spent, .int .i64 s.read]) ∧ SOwn w' w.heap.size v1 v2 v3 s ros' Z ∧ Chg (fun _ => False) w w' := by
  have hV := Aside0.mk h
  have hS := Aside0.mk hs
  have hrol := Aside0.mk h.os.1
  clear h hs
  go_enter Try.func24, Try.ntmps24
  go_wp2_with (first | (go_at_call 68; go_must (generalize hW : World.alloc (World.alloc (World.alloc w _) _) _ = W0); go_must (have hz0 : Aside0 (Chg (fun _ => False) w W0) := ⟨by rw [← hW]; exact (((Chg.refl _ w).alloc _).alloc _).alloc _⟩); go_must (have hb10 : Aside0 (W0.heap[w.heap.size]? = some (.cells #[.slice tA s.texts.length tc, .slice oA s.objs.length oc, .slice bA s.fibers.length bc, .int .i64 s.cur, .int .i64 s.steps, .int .i64 s.spent, .int .i64 s.read] 40 (0, 0))) := ⟨by rw [← hW]; exact (((Chg.refl (fun _ => False) (w.alloc _)).alloc _).alloc _).blk (heap_alloc_new w _) (fun e => e)⟩); go_must (have hb20 : Aside0 (W0.heap[w.heap.size + 1]? = some (.cells #[.slice none 0 0, .slice none 0 0, .slice none 0 0, .int .i64 0, .int .i64 0, .int .i64 0, .int .i64 0] 40 (0, 0))) := ⟨by rw [← hW]; exact ((Chg.refl (fun _ => False) ((w.alloc _).alloc _)).alloc _).blk (heap_alloc2_new w _ _) (fun e => e)⟩); go_must (have hb30 : W0.heap[w.heap.size + 1 + 1]? = some (.cells #[.slice tA s.texts.length tc, .slice oA s.objs.length oc, .slice bA s.fibers.length bc, .int .i64 s.cur, .int .i64 s.steps, .int .i64 s.spent, .int .i64 s.read] 40 (0, 0)) := by rw [← hW]; exact heap_alloc3 w _ _ _); go_must (obtain ⟨b3, hb3E⟩ : ∃ b3, b3 = w.heap.size + 1 + 1 := ⟨_, rfl⟩); go_must (rw [← hb3E] at hb30 ⊢); go_must (obtain ⟨b2, hb2E⟩ : ∃ b2, b2 = w.heap.size + 1 := ⟨_, rfl⟩); go_must (rw [← hb2E] at hb20 ⊢); go_must (have hbo : Aside0 (w.heap.size < b2 ∧ b2 < b3) := ⟨by omega⟩); go_must (have hlt : Aside0 (b3 < W0.heap.size) := ⟨blk_lt hb30⟩); go_must (replace hb30 := Aside0.mk hb30); go_must (clear hb3E hb2E hW); go_must (refine (ref_CopyTexts _ tA s.texts.length tc s.texts (hV.out.below (hz0.out.below (fun _ _ h => h))).ts hS.out.t).mono ?_); go_must (rintro e w1 ⟨v1, rfl, hr1, hc1⟩); go_must (obtain ⟨A1, n1, c1, rfl⟩ := R_sl hr1); go_must (have ow1 := Aside0.mk (Ow.of_new (v := (A1, n1, c1)) (lo := W0.heap.size) rfl hr1 (by first | exact Nat.le_refl _ | exact hsz0.out))); go_must (have g1 := hc1.blk hb10.out (fun h => h)); go_must (have g2 := hc1.blk hb20.out (fun h => h)); go_must (have g3 := hc1.blk hb30.out (fun h => h)); go_must (have y := blk_cell g3 0); go_must (have z := blk_frozen g3 0); go_must (have hs1 := (Chg.refl (fun k => k = b3) w1).setCell (p := ⟨b3, 0, none⟩) (fun _ => rfl) (.slice A1 n1 c1)); go_must (have hb11 := Aside0.mk (hs1.blk g1 (fun h => by have := hbo.out; omega))); go_must (have hb21 := Aside0.mk (hs1.blk g2 (fun h => by have := hbo.out; omega))); go_must (have hb31 := Aside0.mk (blk_set g3 0 (.slice A1 n1 c1))); go_must (have hz1 := Aside0.mk ((hz0.out.trans hc1 (fun _ _ h => h)).trans hs1 (fun k hk h => by have := hbo.out; omega))); go_must (have hsz1 := Aside0.mk (Nat.le_trans (Nat.le_refl _) (Nat.le_trans hc1.size hs1.size))); go_must (replace ow1 := Aside0.mk (ow1.out.chg hs1 (fun b hb h => by have := ow1.out.2 b hb; have := hlt.out; omega))); go_must (have x := blk_cell hb11.out 1); go_must (clear g1 g2 g3 hr1 hc1 hs1)) | (go_at_call 69; go_must (refine (ref_CopyObjects _ oA s.objs.length oc ros s.objs (hV.out.below (hz1.out.below (fun _ _ h => h))).os hrol.out (hV.out.below (hz1.out.below (fun _ _ h => h))).ro hS.out.o hS.out.oi).mono ?_); go_must (rintro e w2 ⟨⟨A2, n2, c2⟩, ros2, rfl, ow2, oc2, hc2⟩); go_must (simp only [svl]); go_must (replace ow2 := Aside0.mk (ow2.mono hsz1.out)); go_must (replace oc2 := Aside0.mk (oc2.mono hsz1.out)); go_must (have g1 := hc2.blk hb11.out (fun h => h)); go_must (have g2 := hc2.blk hb21.out (fun h => h)); go_must (have g3 := hc2.blk hb31.out (fun h => h)); go_must (have y := blk_cell g3 1); go_must (have z := blk_frozen g3 1); go_must (have hs2 := (Chg.refl (fun k => k = b3) w2).setCell (p := ⟨b3, 1, none⟩) (fun _ => rfl) (.slice A2 n2 c2)); go_must (have hb12 := Aside0.mk (hs2.blk g1 (fun h => by have := hbo.out; omega))); go_must (have hb22 := Aside0.mk (hs2.blk g2 (fun h => by have := hbo.out; omega))); go_must (have hb32 := Aside0.mk (blk_set g3 1 (.slice A2 n2 c2))); go_must (have hz2 := Aside0.mk ((hz1.out.trans hc2 (fun _ _ h => h)).trans hs2 (fun k hk h => by have := hbo.out; omega))); go_must (have hsz2 := Aside0.mk (Nat.le_trans hsz1.out (Nat.le_trans hc2.size hs2.size))); go_must (replace ow1 := Aside0.mk ((ow1.out.chg hc2 (fun _ _ h => h)).chg hs2 (fun b hb h => by have := ow1.out.2 b hb; have := hlt.out; omega))); go_must (replace oc2 := Aside0.mk (oc2.out.hit hs2 (Hits.old (fun b h => by have := hlt.out; omega)))); go_must (replace ow2 := Aside0.mk (ow2.out.chg hs2 (fun b hb h => by have := ow2.out.2 b hb; have := hlt.out; omega))); go_must (have x := blk_cell hb12.out 2); go_must (clear g1 g2 g3 hc2 hs2)) | (go_at_call 70; go_must (refine (ref_CopyFibers _ bA s.fibers.length bc (rbs.zip L) s.fibers (hV.out.below (hz2.out.below (fun _ _ h => h))).zip.2.2 (hV.out.below (hz2.out.below (fun _ _ h => h))).zip.1 (hV.out.below (hz2.out.below (fun _ _ h => h))).zip.2.1 hS.out.b hS.out.bf).mono ?_); go_must (rintro e w3 ⟨⟨A3, n3, c3⟩, Z3, rfl, ow3, bc3, ba3, hc3⟩); go_must (simp only [svl]); go_must (replace ow3 := Aside0.mk (ow3.mono hsz2.out)); go_must (replace bc3 := Aside0.mk (bc3.mono hsz2.out)); go_must (have g1 := hc3.blk hb12.out (fun h => h)); go_must (have g2 := hc3.blk hb22.out (fun h => h)); go_must (have g3 := hc3.blk hb32.out (fun h => h)); go_must (have y := blk_cell g3 2); go_must (have z := blk_frozen g3 2); go_must (have hs3 := (Chg.refl (fun k => k = b3) w3).setCell (p := ⟨b3, 2, none⟩) (fun _ => rfl) (.slice A3 n3 c3)); go_must (have hb13 := Aside0.mk (hs3.blk g1 (fun h => by have := hbo.out; omega))); go_must (have hb23 := Aside0.mk (hs3.blk g2 (fun h => by have := hbo.out; omega))); go_must (have hb33 := Aside0.mk (blk_set g3 2 (.slice A3 n3 c3))); go_must (have hz3 := Aside0.mk ((hz2.out.trans hc3 (fun _ _ h => h)).trans hs3 (fun k hk h => by have := hbo.out; omega))); go_must (have hsz3 := Aside0.mk (Nat.le_trans hsz2.out (Nat.le_trans hc3.size hs3.size))); go_must (replace ow1 := Aside0.mk ((ow1.out.chg hc3 (fun _ _ h => h)).chg hs3 (fun b hb h => by have := ow1.out.2 b hb; have := hlt.out; omega))); go_must (replace ow2 := Aside0.mk ((ow2.out.chg hc3 (fun _ _ h => h)).chg hs3 (fun b hb h => by have := ow2.out.2 b hb; have := hlt.out; omega))); go_must (replace oc2 := Aside0.mk ((oc2.out.hit hc3 Hits.no).hit hs3 (Hits.old (fun b h => by have := hlt.out; omega)))); go_must (replace bc3 := Aside0.mk (bc3.out.hit hs3 (Hits.old (fun b h => by have := hlt.out; omega)))); go_must (replace ow3 := Aside0.mk (ow3.out.chg hs3 (fun b hb h => by have := ow3.out.2 b hb; have := hlt.out; omega))); go_must (have q0 := blk_cell hb33.out 0); go_must (have q1 := blk_cell hb33.out 1); go_must (have q2 := blk_cell hb33.out 2); go_must (have q3 := blk_cell hb33.out 3); go_must (have q4 := blk_cell hb33.out 4); go_must (have q5 := blk_cell hb33.out 5); go_must (have q6 := blk_cell hb33.out 6); go_must (have t0 := blk_cell hb23.out 0); go_must (have t1 := blk_cell hb23.out 1); go_must (have t2 := blk_cell hb23.out 2); go_must (have t3 := blk_cell hb23.out 3); go_must (have t4 := blk_cell hb23.out 4); go_must (have t5 := blk_cell hb23.out 5); go_must (have t6 := blk_cell hb23.out 6); go_must (have u0 := blk_frozen hb23.out 0); go_must (have u1 := blk_frozen hb23.out 1); go_must (have u2 := blk_frozen hb23.out 2); go_must (have u3 := blk_frozen hb23.out 3); go_must (have u4 := blk_frozen hb23.out 4); go_must (have u5 := blk_frozen hb23.out 5); go_must (have u6 := blk_frozen hb23.out 6); go_must (clear g1 g2 g3 hc3 hs3)))
  (try simp only [Exit.inBlock, Exit.then])
  refine bodyPost_ret (results_cell_row rfl _ _ _ _ _ _ _ rfl (blk_set (blk_set (blk_set (blk_set (blk_set (blk_set (blk_set hb23.out 0 (.slice A1 n1 c1)) 1 (.slice A2 n2 c2)) 2 (.slice A3 n3 c3)) 3 (.int .i64 s.cur)) 4 (.int .i64 s.steps)) 5 (.int .i64 s.spent)) 6 (.int .i64 s.read)) Try.underlying40 rfl (by kernel_rfl)) rfl ?_
  have hfin := (Chg.setCell (Chg.setCell (Chg.setCell (Chg.setCell (Chg.setCell (Chg.setCell (Chg.setCell (Chg.refl (fun k => k = b2) (w3.setCell ⟨b3, 2, none⟩ (.slice A3 n3 c3))) (p := ⟨b2, 0, none⟩) (fun _ => rfl) (.slice A1 n1 c1)) (p := ⟨b2, 1, none⟩) (fun _ => rfl) (.slice A2 n2 c2)) (p := ⟨b2, 2, none⟩) (fun _ => rfl) (.slice A3 n3 c3)) (p := ⟨b2, 3, none⟩) (fun _ => rfl) (.int .i64 s.cur)) (p := ⟨b2, 4, none⟩) (fun _ => rfl) (.int .i64 s.steps)) (p := ⟨b2, 5, none⟩) (fun _ => rfl) (.int .i64 s.spent)) (p := ⟨b2, 6, none⟩) (fun _ => rfl) (.int .i64 s.read))
  have hlo := hz0.out.size
  have hh : ∀ b, b = b2 → b < W0.heap.size := fun b h => by have := hlt.out; have := hbo.out; omega
  refine ⟨(A1, n1, c1), (A2, n2, c2), (A3, n3, c3), ros2, Z3, rfl, ⟨(ow1.out.chg hfin (fun b hb h => by have := ow1.out.2 b hb; have := hh b h; omega)).mono hlo, (ow2.out.chg hfin (fun b hb h => by have := ow2.out.2 b hb; have := hh b h; omega)).mono hlo, (ow3.out.chg hfin (fun b hb h => by have := ow3.out.2 b hb; have := hh b h; omega)).mono hlo, (oc2.out.hit hfin (Hits.old hh)).mono hlo, (bc3.out.hit hfin (Hits.old hh)).mono hlo, ba3⟩, ?_⟩
  exact hz3.out.trans hfin (fun k hk h => by have := hbo.out; omega)
end Go.Proofs.Ytdoghjmanogelaa.K
