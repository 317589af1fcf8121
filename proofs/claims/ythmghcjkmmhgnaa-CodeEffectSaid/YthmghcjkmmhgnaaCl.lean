import Derived.Test.YthmghcjkmmhgnaaCk
import Derived.BigQuiet
import Derived.IntWalk
import Derived.Deep.RegionHeld3
namespace Go.Proofs.Ythmghcjkmmhgnaa.K
open Go.RowKit Go.Proofs.YthmghcjkmmhgnaaW.PrintWords Go.Proofs.YthmghcjkmmhgnaaW.PrintLast Go.Proofs.YthmghcjkmmhgnaaW.PrintMore
set_option linter.unusedVariables false
set_option linter.unusedSimpArgs false
set_option maxRecDepth 100000

set_option maxHeartbeats 4000000
theorem law_codeEffect (w : World) (op a : Int) (a0 : -9223372036854775808 ≤ a) (a1 : a ≤ 9223372036854775807) : Calls Try.prog 7 #[.agg #[.int .i64 op, .int .i64 a]] w fun e w' => e = .returned (.bool true) ∧ Below w.heap.size w w' := by
  have h1 : Aside0 (∀ W, Calls Try.prog 30 #[.agg #[.int .i64 op, .int .i64 a]] W _) := ⟨fun W => ref_Effect W op a a0 a1⟩
  have h2 : Aside0 (∀ W, Calls Try.prog 31 #[.agg #[.int .i64 op, .int .i64 a]] W _) := ⟨fun W => code_Effect W op a⟩
  have h3 : Aside0 (∀ W, Calls Try.prog 33 #[.agg #[.int .i64 op, .int .i64 a]] W _) := ⟨fun W => code_Check W op a⟩
  have h4 : Aside0 (∀ W, Calls Try.prog 34 #[.agg #[.int .i64 op, .int .i64 a]] W _) := ⟨fun W => ref_Check W op a⟩
  generalize chkP op a = ck at h3 h4
  generalize efP op a = ef at h1 h2
  generalize tkP op a = tk at h1 h2
  generalize ptP op a = pt at h1 h2
  have hz0 := Aside0.mk ((Chg.refl (fun _ => False) w).alloc (.cells #[.int .i64 op, .int .i64 a] 35))
  have hb0 := Aside0.mk (heap_alloc_new w (.cells #[.int .i64 op, .int .i64 a] 35))
  clear a0 a1
  go_enter Try.func7, Try.ntmps7
  go_wp2_with (first | (go_at_call 30; (refine (h1.out _).mono ?_); (rintro e w1 ⟨rfl, hc1⟩); (have hb1 : Aside0 (w1.heap[w.heap.size]? = some (.cells #[.int .i64 op, .int .i64 a] 35 (0, 0))) := ⟨by first | exact hc1.blk hb0.out (fun h => h)⟩); (have x10 : w1.cell? ⟨w.heap.size, 0, none⟩ = some (.int .i64 op) := blk_cell hb1.out 0); (have x11 : w1.cell? ⟨w.heap.size, 1, none⟩ = some (.int .i64 a) := blk_cell hb1.out 1); (have hz1 : Aside0 (Chg (fun _ => False) w w1) := ⟨by first | exact hz0.out.trans hc1 (fun _ _ h => h)⟩); clear hc1) | (go_at_call 31; (refine (h2.out _).mono ?_); (rintro e w2 ⟨rfl, hc2⟩); (have hb2 : Aside0 (w2.heap[w.heap.size]? = some (.cells #[.int .i64 op, .int .i64 a] 35 (0, 0))) := ⟨by first | exact hc2.blk hb1.out (fun h => h)⟩); (have x20 : w2.cell? ⟨w.heap.size, 0, none⟩ = some (.int .i64 op) := blk_cell hb2.out 0); (have x21 : w2.cell? ⟨w.heap.size, 1, none⟩ = some (.int .i64 a) := blk_cell hb2.out 1); (have hz2 : Aside0 (Chg (fun _ => False) w w2) := ⟨by first | exact hz1.out.trans hc2 (fun _ _ h => h)⟩); clear hc2) | fail)
  clear h1 h2
  go_region_held3 (fun w' => w'.cell? ⟨w.heap.size, 0, none⟩ = some (.int .i64 op) ∧ w'.cell? ⟨w.heap.size, 1, none⟩ = some (.int .i64 a)) (first | exact ⟨x40, x41⟩ | exact ⟨x30, x31⟩ | go_keep) (first | (go_at_call 33; (refine (h3.out _).mono ?_); (rintro e w3 ⟨rfl, hc3⟩); (have hb3 : Aside0 (w3.heap[w.heap.size]? = some (.cells #[.int .i64 op, .int .i64 a] 35 (0, 0))) := ⟨by first | exact hc3.blk hb2.out (fun h => h) | exact hc3.blk hb4.out (fun h => h)⟩); (have x30 : w3.cell? ⟨w.heap.size, 0, none⟩ = some (.int .i64 op) := blk_cell hb3.out 0); (have x31 : w3.cell? ⟨w.heap.size, 1, none⟩ = some (.int .i64 a) := blk_cell hb3.out 1); (have hz3 : Aside0 (Chg (fun _ => False) w w3) := ⟨by first | exact hz2.out.drew.trans hc3 (fun _ _ h => h) | exact hz4.out.trans hc3 (fun _ _ h => h) | exact hz4.out.drew.trans hc3 (fun _ _ h => h)⟩); clear hc3) | (go_at_call 34; (refine (h4.out _).mono ?_); (rintro e w4 ⟨rfl, hc4⟩); (have hb4 : Aside0 (w4.heap[w.heap.size]? = some (.cells #[.int .i64 op, .int .i64 a] 35 (0, 0))) := ⟨by first | exact hc4.blk hb2.out (fun h => h) | exact hc4.blk hb3.out (fun h => h)⟩); (have x40 : w4.cell? ⟨w.heap.size, 0, none⟩ = some (.int .i64 op) := blk_cell hb4.out 0); (have x41 : w4.cell? ⟨w.heap.size, 1, none⟩ = some (.int .i64 a) := blk_cell hb4.out 1); (have hz4 : Aside0 (Chg (fun _ => False) w w4) := ⟨by first | exact hz2.out.drew.trans hc4 (fun _ _ h => h) | exact hz3.out.trans hc4 (fun _ _ h => h) | exact hz3.out.drew.trans hc4 (fun _ _ h => h)⟩); clear hc4) | (go_at_call 32; (refine (kit_Num _ _).mono ?_); (rintro e w5 ⟨rfl, rfl⟩)))
  all_goals (
    go_wp2
    go_ret
    refine ⟨by first | rfl | simp, ?_⟩
    first | exact hz4.out.below (fun _ _ h => h) | exact hz3.out.below (fun _ _ h => h))

end Go.Proofs.Ythmghcjkmmhgnaa.K
