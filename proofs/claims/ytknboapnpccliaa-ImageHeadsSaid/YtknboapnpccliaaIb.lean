import Derived.Test.YtknboapnpccliaaIa
import Derived.IntWalk
import Derived.BigQuiet
namespace Go.Proofs.Ytknboapnpccliaa.K
open Go.RowKit Go.Proofs.YtknboapnpccliaaW.PrintWords Go.Proofs.YtknboapnpccliaaW.PrintLast Go.Proofs.YtknboapnpccliaaW.PrintMore
set_option linter.unusedVariables false
set_option linter.unusedSimpArgs false
set_option maxRecDepth 100000

theorem results_cellH {fn : Func} {c u : Tmp} {t : TypeId} (h : fn.results = #[.cell c t, .tmp u]) (tmps : Array Value) (P : Program) (w : World) (g : Nat) (hp : tmps.getD c undef = .pointer (some ⟨g, 0, none⟩)) (v : Value) (hl : (loadVar t ⟨g, 0, none⟩).run P w = .ok v w) :
    (results fn tmps).run P w = .ok (.tuple #[v, tmps.getD u undef]) w := by
  simp only [results, h]
  rw [Array.getD_eq_getD_getElem?] at hp
  simp [hp, asAddr, hl, Result.andThen]
theorem chg_setRow (w : World) (g : Nat) (cs : Array Value) : Chg (fun k => k = g) w (w.setRow g cs) := ⟨rfl, rfl, rfl, by simp [World.setRow], fun k _ hn => setRow_other w g k cs hn⟩
theorem nums_one (l : List Int) : ((nums .u8 l).toArray.all (·.oneCell')) = true := by
  rw [Array.all_eq_true_iff_forall_mem]
  intro v hv
  simp only [nums, List.mem_toArray, List.mem_map] at hv
  obtain ⟨x, _, rfl⟩ := hv
  rfl
theorem head_step {wr : World} {gx k m : Nat} {cur : Array Value} {t : TypeId} {v : Int} (g1 : wr.heap[gx]? = some (.cells cur t (0, 0))) (g2 : cur.size = m) (hk : k < m) :
    ((wr.setCell ⟨gx, k, none⟩ (.int .u8 v)).heap[gx]? = some (.cells (cur.setIfInBounds k (.int .u8 v)) t (0, 0)) ∧ (cur.setIfInBounds k (.int .u8 v)).size = m ∧ Chg (fun b => b = gx) wr (wr.setCell ⟨gx, k, none⟩ (.int .u8 v))) :=
  ⟨blk_set g1 _ _, by simpa using g2, (Chg.refl (fun b => b = gx) wr).setCell (p := ⟨gx, k, none⟩) (fun _ => rfl) _⟩
def Z32 : Array Value := (nums .u8 (List.replicate 32 0)).toArray
theorem ref_Head (w : World) (A : Option Addr) (n cap : Nat) (bs : List Int) (hC : Kd.C (Kd.int .u8) w A n bs) (hn : bs.length ≤ 140737488355328) :
    Calls Try.prog 35 #[.slice A n cap] w fun e w' => e = .returned (.tuple #[.agg (nums .u8 (headP bs).1).toArray, .int .i64 (headP bs).2]) ∧ Chg (fun _ => False) w w' := by
  have e0 := hC.1
  subst e0
  have hCA := Aside0.mk hC
  have hmk : Aside0 (∀ W, Chg (fun _ => False) w W → Calls Try.prog 79 #[.slice A bs.length cap] W fun e w' => e = .returned (.int .i64 (markP bs)) ∧ Chg (fun _ => False) W w') := ⟨fun W hW => ref_mark W A bs.length cap bs (C_chg hC (hW.below (fun _ _ h => h))) hn⟩
  clear hC
  by_cases hm : markP bs = 0
  · rw [hm] at hmk
    by_cases h36 : bs.length < 36
    · have hE : Aside0 (headP bs = (List.replicate 32 0, 2)) := ⟨by unfold headP; rw [if_neg (fun h => h hm), if_pos h36]⟩
      have d1 : (bs.length : Int) < 36 := by omega
      clear hm h36
      go_enter Try.func35, Try.ntmps35
      go_wp2_with (first | (go_at_call 79; go_must (generalize hW : World.alloc (World.alloc w _) _ = W0); go_must (have hc0 : Aside0 (Chg (fun _ => False) w W0) := ⟨by rw [← hW]; exact ((Chg.refl _ w).alloc _).alloc _⟩); go_must (have h2 : W0.heap[w.heap.size]? = some (.cells Z32 75 (0, 0)) := by rw [← hW]; exact heap_alloc_old2 w _ _); go_must (have h4 : W0.heap[w.heap.size + 1]? = some (.cells Z32 75 (0, 0)) := by rw [← hW]; exact heap_alloc_new2 w _ _); go_must (clear hW); go_must (refine (hmk.out W0 hc0.out).mono ?_); go_must (rintro e w1 ⟨rfl, hc1⟩); go_must (replace h2 := Aside0.mk (hc1.blk h2 (fun h => h))); go_must (replace h4 := Aside0.mk (hc1.blk h4 (fun h => h))); go_must (replace hc1 := Aside0.mk (hc0.out.trans hc1 (fun _ _ h => h))); go_must (clear hc0)) | (refine wpList_load_row rfl _ _ (by rfl) (w.heap.size + 1) (by rfl) 75 Z32 (0, 0) _ h4.out Try.underlying75 rfl (by kernel_rfl) ?_; first | (refine wpList_store_row rfl _ _ _ (by rfl) w.heap.size Z32 (by rfl) (by rfl) 75 Z32 h2.out (by kernel_rfl) rfl (nums_one _) ?_) | skip) | (refine wpList_store_row rfl _ _ _ (by rfl) w.heap.size Z32 (by rfl) (by rfl) 75 Z32 h2.out (by kernel_rfl) rfl (nums_one _) ?_))
      have h5 := setRow_heap _ _ _ Z32 _ _ h2.out
      (try simp only [Exit.inBlock, Exit.then])
      refine bodyPost_ret (results_cellH rfl _ _ _ _ rfl _ (run_loadVar_row _ _ _ _ _ _ _ h5 Try.underlying75 rfl (by kernel_rfl))) rfl ?_
      rw [hE.out]
      exact ⟨rfl, hc1.out.trans (chg_setRow _ _ _) (fun k hk h => by omega)⟩
    · have hE : Aside0 (headP bs = ((bs.drop 4).take 32, 0)) := ⟨by unfold headP; rw [if_neg (fun h => h hm), if_neg h36]⟩
      have d1 : ¬ (bs.length : Int) < 36 := by omega
      have h36A : Aside0 (36 ≤ bs.length) := ⟨by omega⟩
      clear hm h36
      go_enter Try.func35, Try.ntmps35
      go_wp2_with (first | (go_at_call 79; go_must (generalize hW : World.alloc (World.alloc w _) _ = W0); go_must (have hc0 : Aside0 (Chg (fun _ => False) w W0) := ⟨by rw [← hW]; exact ((Chg.refl _ w).alloc _).alloc _⟩); go_must (have h2 : W0.heap[w.heap.size]? = some (.cells Z32 75 (0, 0)) := by rw [← hW]; exact heap_alloc_old2 w _ _); go_must (have h4 : W0.heap[w.heap.size + 1]? = some (.cells Z32 75 (0, 0)) := by rw [← hW]; exact heap_alloc_new2 w _ _); go_must (clear hW); go_must (refine (hmk.out W0 hc0.out).mono ?_); go_must (rintro e w1 ⟨rfl, hc1⟩); go_must (replace h2 := Aside0.mk (hc1.blk h2 (fun h => h))); go_must (replace h4 := Aside0.mk (hc1.blk h4 (fun h => h))); go_must (replace hc1 := Aside0.mk (hc0.out.trans hc1 (fun _ _ h => h))); go_must (clear hc0)))
      go_loopw [6] (fun ix wr => ∃ (k : Nat) (cur : Array Value), ix = .int .i64 k ∧ k ≤ 32 ∧ Aside0 (wr.heap[w.heap.size + 1]? = some (.cells cur 75 (0, 0)) ∧ cur.size = 32 ∧ ∀ j, j < k → cur[j]? = some (.int .u8 (bs.getD (4 + j) 0))) ∧ Aside0 (Chg (fun b => b = w.heap.size + 1) w1 wr)) (fun ix _ => 32 - (intOf ix).toNat)
      case atStart => exact ⟨0, Z32, rfl, by omega, ⟨h4.out, rfl, fun j hj => by omega⟩, ⟨Chg.refl _ _⟩⟩
      case round =>
        obtain ⟨k, cur, rfl, hk, hX, hCh⟩ := hrel
        have hCw := Aside0.mk (hc1.out.trans (hCh.out) (S := fun _ => False) (fun b hb h => by omega))
        by_cases hlt : k < 32
        · have hk0 : (0 : Int) ≤ k := by omega
          have hk1 : (k : Int) < 32 := by omega
          obtain ⟨ad, e1, x0⟩ := byte_at (C_chg hCA.out (hCw.out.below (fun _ _ h => h))) (4 + k) (by have := h36A.out; omega)
          subst e1
          obtain ⟨g1, g2, g3⟩ := hX.out
          obtain ⟨u, hu⟩ : ∃ u, cur[k]? = some u := ⟨_, Array.getElem?_eq_getElem (by omega)⟩
          have y0 : wr.cell? ⟨w.heap.size + 1, k, none⟩ = some u := by rw [blk_cell g1 k]; exact hu
          have z0 : wr.frozen? ⟨w.heap.size + 1, k, none⟩ = false := blk_frozen g1 _
          have hstep := Aside0.mk (head_step (v := bs.getD (4 + k) 0) g1 g2 hlt)
          obtain ⟨j, hj⟩ : ∃ j, j = 4 + k := ⟨_, rfl⟩
          have hnext : ∀ i, i < k + 1 → (cur.setIfInBounds k (.int .u8 (bs.getD (4 + k) 0)))[i]? = some (.int .u8 (bs.getD (4 + i) 0)) := fun i hi => by
            rw [Array.getElem?_setIfInBounds]
            by_cases hik : k = i
            · subst hik; rw [if_pos rfl, if_pos (by omega)]
            · rw [if_neg hik]; exact g3 i (by omega)
          replace hnext := Aside0.mk hnext
          rw [← hj] at x0 hstep hnext
          generalize bs.getD j 0 = b at x0 hstep hnext
          have hs : (4 : Int) + (k : Int) = (j : Int) := by omega
          have hj0 : (0 : Int) ≤ (j : Int) := by omega
          have hj1 : (j : Int) < bs.length := by have := h36A.out; omega
          have hjm : (j : Int) ≤ 36 := by omega
          clear g1 g2 g3 hu hj
          go_wp2
          go_roundw
          case measure => first | (simp [intOf]; done) | (simp [intOf]; omega)
          case rel => exact ⟨k + 1, _, by go_num, by omega, ⟨hstep.out.1, hstep.out.2.1, hnext.out⟩, ⟨hCh.out.trans hstep.out.2.2 (fun _ _ h => h)⟩⟩
        · obtain rfl : k = 32 := by omega
          obtain ⟨g1, g2, g3⟩ := hX.out
          have hcur : cur = (nums .u8 ((bs.drop 4).take 32)).toArray := by
            apply Array.ext_getElem?
            intro i
            by_cases hi : i < 32
            · rw [g3 i hi]
              have := h36A.out
              simp only [nums, List.getElem?_toArray, List.getElem?_map, List.getElem?_take, if_pos hi, List.getElem?_drop]
              rw [List.getD_eq_getElem?_getD, List.getElem?_eq_getElem (by omega)]
              rfl
            · rw [Array.getElem?_eq_none (by omega), Array.getElem?_eq_none]
              have := h36A.out
              simp [nums]
              omega
          subst hcur
          have hl32 : (nums .u8 ((bs.drop 4).take 32)).toArray.size = 32 := g2
          have h2b := Aside0.mk (hCh.out.blk h2.out (by omega))
          have g1A := Aside0.mk g1
          have h1c := nums_one ((bs.drop 4).take 32)
          obtain ⟨D, hD⟩ : ∃ D, D = (nums .u8 ((bs.drop 4).take 32)).toArray := ⟨_, rfl⟩
          rw [← hD] at g1A hl32 h1c
          replace hD := Aside0.mk hD
          clear g1 g2 g3 hX
          go_wp2_with (refine wpList_load_row rfl _ _ (by rfl) (w.heap.size + 1) (by rfl) 75 D (0, 0) _ g1A.out Try.underlying75 rfl (by rw [hl32]; kernel_rfl) ?_; refine wpList_store_row rfl _ _ _ (by rfl) w.heap.size D (by rfl) (by rfl) 75 Z32 h2b.out (by rw [hl32]; kernel_rfl) (by rw [hl32]; rfl) h1c ?_)
          have h5 := setRow_heap _ _ _ D _ _ h2b.out
          (try simp only [Exit.inBlock, Exit.then])
          refine bodyPost_ret (results_cellH rfl _ _ _ _ rfl _ (run_loadVar_row _ _ _ _ _ _ _ h5 Try.underlying75 rfl (by rw [hl32]; kernel_rfl))) rfl ?_
          rw [hE.out]
          exact ⟨by rw [hD.out]; rfl, hCw.out.trans (chg_setRow _ _ _) (fun b hb h => by omega)⟩
  · have hE : Aside0 (headP bs = (List.replicate 32 0, markP bs)) := ⟨by unfold headP; rw [if_pos hm]⟩
    have d1 : (markP bs != 0) = true := by simpa using hm
    generalize markP bs = mk at hmk hE d1
    clear hm
    go_enter Try.func35, Try.ntmps35
    go_wp2_with (first | (go_at_call 79; go_must (generalize hW : World.alloc (World.alloc w _) _ = W0); go_must (have hc0 : Aside0 (Chg (fun _ => False) w W0) := ⟨by rw [← hW]; exact ((Chg.refl _ w).alloc _).alloc _⟩); go_must (have h2 : W0.heap[w.heap.size]? = some (.cells Z32 75 (0, 0)) := by rw [← hW]; exact heap_alloc_old2 w _ _); go_must (have h4 : W0.heap[w.heap.size + 1]? = some (.cells Z32 75 (0, 0)) := by rw [← hW]; exact heap_alloc_new2 w _ _); go_must (clear hW); go_must (refine (hmk.out W0 hc0.out).mono ?_); go_must (rintro e w1 ⟨rfl, hc1⟩); go_must (replace h2 := Aside0.mk (hc1.blk h2 (fun h => h))); go_must (replace h4 := Aside0.mk (hc1.blk h4 (fun h => h))); go_must (replace hc1 := Aside0.mk (hc0.out.trans hc1 (fun _ _ h => h))); go_must (clear hc0)) | (refine wpList_load_row rfl _ _ (by rfl) (w.heap.size + 1) (by rfl) 75 Z32 (0, 0) _ h4.out Try.underlying75 rfl (by kernel_rfl) ?_; first | (refine wpList_store_row rfl _ _ _ (by rfl) w.heap.size Z32 (by rfl) (by rfl) 75 Z32 h2.out (by kernel_rfl) rfl (nums_one _) ?_) | skip) | (refine wpList_store_row rfl _ _ _ (by rfl) w.heap.size Z32 (by rfl) (by rfl) 75 Z32 h2.out (by kernel_rfl) rfl (nums_one _) ?_))
    have h5 := setRow_heap _ _ _ Z32 _ _ h2.out
    (try simp only [Exit.inBlock, Exit.then])
    refine bodyPost_ret (results_cellH rfl _ _ _ _ rfl _ (run_loadVar_row _ _ _ _ _ _ _ h5 Try.underlying75 rfl (by kernel_rfl))) rfl ?_
    rw [hE.out]
    exact ⟨rfl, hc1.out.trans (chg_setRow _ _ _) (fun k hk h => by omega)⟩

end Go.Proofs.Ytknboapnpccliaa.K
