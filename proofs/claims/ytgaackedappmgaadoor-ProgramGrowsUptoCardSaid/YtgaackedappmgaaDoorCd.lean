import Derived.Test.YtgaackedappmgaaDoorGz
import Derived.BigQuiet
namespace Go.Proofs.YtgaackedappmgaaDoor.K
open Go.RowKit Go.Proofs.YtgaackedappmgaaDoorW.PrintWords Go.Proofs.YtgaackedappmgaaDoorW.PrintLast Go.Proofs.YtgaackedappmgaaDoorW.PrintMore
set_option linter.unusedVariables false
set_option linter.unusedSimpArgs false
set_option maxRecDepth 100000
def okP (op : Int) : Bool := decide (0 ≤ op ∧ op < 67)
theorem rowP_at {k : Nat} (hk : k < 67) : rowP k = opTab.getD k noRow ∧ okP k = true := by
  refine ⟨?_, by unfold okP; simp; omega⟩
  unfold rowP
  rw [if_pos (by omega), Int.toNat_natCast]
theorem rowP_not {op : Int} (h : ¬ (0 ≤ op ∧ op < 67)) : rowP op = noRow ∧ okP op = false := ⟨by unfold rowP; rw [if_neg h], by unfold okP; simpa using h⟩
theorem tab_all (p : ORow → Prop) [DecidablePred p] (h0 : p noRow) (h : opTab.all (fun r => decide (p r)) = true) (op : Int) : p (rowP op) := by
  unfold rowP
  split
  · rw [List.getD_eq_getElem?_getD]
    rcases hk : opTab[op.toNat]? with _ | r
    · exact h0
    · have := List.all_eq_true.1 h r (List.mem_of_getElem? hk)
      simpa using this
  · exact h0
theorem rowP_bounds (op : Int) : 0 ≤ (rowP op).kind ∧ (rowP op).kind ≤ 8 ∧ 0 ≤ (rowP op).takes ∧ (rowP op).takes ≤ 3 ∧ 0 ≤ (rowP op).puts ∧ (rowP op).puts ≤ 2 :=
  tab_all (fun r => 0 ≤ r.kind ∧ r.kind ≤ 8 ∧ 0 ≤ r.takes ∧ r.takes ≤ 3 ∧ 0 ≤ r.puts ∧ r.puts ≤ 2) (by decide) (by decide +kernel) op
theorem i64_small {a : Int} (h0 : 0 ≤ a) (h1 : a ≤ 255) : IntKind.i64.wrap a = a := by simp [IntKind.wrap, IntKind.bits, IntKind.signed]; omega
theorem results_cellT {fn : Func} {c u : Tmp} {t : TypeId} (h : fn.results = #[.cell c t, .tmp u]) (tmps : Array Value) (P : Program) (w : World) (g : Nat) (hp : tmps.getD c undef = .pointer (some ⟨g, 0, none⟩)) (v : Value) (hl : (loadVar t ⟨g, 0, none⟩).run P w = .ok v w) :
    (results fn tmps).run P w = .ok (.tuple #[v, tmps.getD u undef]) w := by
  simp only [results, h]
  rw [Array.getD_eq_getD_getElem?] at hp
  simp [hp, asAddr, hl, Result.andThen]
theorem row_first {w : World} {A : Array Value} {s : TypeId} : (w.alloc (.cells A s)).heap[w.heap.size]? = some (.cells A s (0, 0)) ∧ Chg (fun _ => False) w (w.alloc (.cells A s)) := ⟨heap_alloc_new w _, (Chg.refl _ w).alloc _⟩
theorem code_rowOf (w : World) (op : Int) : Calls Tryd.prog 65 #[.int .i64 op] w fun e w' => e = .returned (.tuple #[.agg (rowP op).cells, .bool (okP op)]) ∧ Chg (fun _ => False) w w' := by
  by_cases h0 : op < 0
  · obtain ⟨e1, e2⟩ := rowP_not (op := op) (by omega)
    rw [e1, e2]
    have d0 : decide (op < 0) = true := by simpa using h0
    clear h0 e1 e2
    have hf := Aside0.mk (row_first (w := w) (A := #[.string ⟨#[]⟩, .int .u8 0, .int .u8 0, .int .u8 0, .bool false]) (s := 134))
    go_enter Tryd.func65, Tryd.ntmps65
    go_wp2_with (first | (refine wpList_store_row rfl 134 (.tmp 2) (.tmp 11) rfl w.heap.size noRow.cells rfl rfl 134 _ hf.out.1 (infoRow _) rfl (row_one _) ?_; go_must (have h5 := Aside0.mk (row_put hf.out.1 hf.out.2 noRow.cells)); go_must (generalize hw5 : World.setRow _ _ _ = w5 at h5); go_must (clear hw5)))
    (try simp only [Exit.inBlock, Exit.then])
    refine bodyPost_ret (results_cellT rfl _ _ _ _ rfl _ (run_loadVar_row _ _ _ _ _ _ _ h5.out.1 Tryd.underlying134 rfl (infoRow _))) rfl ?_
    exact ⟨rfl, h5.out.2⟩
  · obtain ⟨k, rfl⟩ := Int.eq_ofNat_of_zero_le (show 0 ≤ op by omega)
    by_cases h1 : k < 38
    · obtain ⟨e1, e2⟩ := rowP_at (k := k) (by omega)
      rw [e1, e2]
      have d1 : decide ((67 : Int) ≤ k) = false := by simp; omega
      have d2 : decide ((k : Int) < 38) = true := by simp; omega
      have d3 : decide (67 ≤ k) = false := by simp; omega
      have d4 : decide (k < 38) = true := by simp; omega
      obtain ⟨r, hr⟩ : ∃ r, r = opTab.getD (0 + k) noRow := ⟨_, rfl⟩
      rw [← Nat.zero_add k] 
      rw [← hr]
      rw [Nat.zero_add]
      replace hr := Aside0.mk hr.symm
      clear h0 e1 e2
      have hf := Aside0.mk (row_first (w := w) (A := #[.string ⟨#[]⟩, .int .u8 0, .int .u8 0, .int .u8 0, .bool false]) (s := 134))
      go_enter Tryd.func65, Tryd.ntmps65
      go_wp2_with (first | (go_at_call 67; go_must (refine (code_early _ k h1).mono ?_); go_must (rintro e w1 ⟨rfl, hc1⟩); go_must (rw [hr.out]); go_must (have hb1 := Aside0.mk (hc1.blk hf.out.1 (fun h => h))); go_must (replace hc1 := Aside0.mk (hf.out.2.trans hc1 (fun _ _ h => h)))) | (refine wpList_store_row rfl 134 (.tmp 2) (.tmp 16) rfl w.heap.size r.cells rfl rfl 134 _ hb1.out (infoRow _) rfl (row_one _) ?_; go_must (have h5 := Aside0.mk (row_put hb1.out hc1.out r.cells)); go_must (generalize hw5 : World.setRow _ _ _ = w5 at h5); go_must (clear hw5)))
      (try simp only [Exit.inBlock, Exit.then])
      refine bodyPost_ret (results_cellT rfl _ _ _ _ rfl _ (run_loadVar_row _ _ _ _ _ _ _ h5.out.1 Tryd.underlying134 rfl (infoRow _))) rfl ?_
      exact ⟨rfl, h5.out.2⟩
    · by_cases h2 : k < 67
      · obtain ⟨j, rfl⟩ : ∃ j, k = 38 + j := ⟨k - 38, by omega⟩
        obtain ⟨e1, e2⟩ := rowP_at (k := 38 + j) (by omega)
        rw [e1, e2]
        obtain ⟨r, hr⟩ : ∃ r, r = opTab.getD (38 + j) noRow := ⟨_, rfl⟩
        rw [← hr]
        replace hr := Aside0.mk hr.symm
        have hj : j < 29 := by omega
        have ec : ((38 + j : Nat) : Int) = (38 : Int) + (j : Int) := by omega
        rw [ec]
        have d0 : decide ((38 : Int) + (j : Int) < 0) = false := by simp; omega
        have d1 : decide ((67 : Int) ≤ (38 : Int) + (j : Int)) = false := by simp; omega
        have d2 : decide ((38 : Int) + (j : Int) < 38) = false := by simp; omega
        clear h0 h1 h2 e1 e2 ec
        have hf := Aside0.mk (row_first (w := w) (A := #[.string ⟨#[]⟩, .int .u8 0, .int .u8 0, .int .u8 0, .bool false]) (s := 134))
        go_enter Tryd.func65, Tryd.ntmps65
        go_wp2_with (first | (go_at_call 68; go_must (refine (code_later _ j hj).mono ?_); go_must (rintro e w1 ⟨rfl, hc1⟩); go_must (rw [hr.out]); go_must (have hb1 := Aside0.mk (hc1.blk hf.out.1 (fun h => h))); go_must (replace hc1 := Aside0.mk (hf.out.2.trans hc1 (fun _ _ h => h)))) | (refine wpList_store_row rfl 134 (.tmp 2) (.tmp 18) rfl w.heap.size r.cells rfl rfl 134 _ hb1.out (infoRow _) rfl (row_one _) ?_; go_must (have h5 := Aside0.mk (row_put hb1.out hc1.out r.cells)); go_must (generalize hw5 : World.setRow _ _ _ = w5 at h5); go_must (clear hw5)))
        (try simp only [Exit.inBlock, Exit.then])
        refine bodyPost_ret (results_cellT rfl _ _ _ _ rfl _ (run_loadVar_row _ _ _ _ _ _ _ h5.out.1 Tryd.underlying134 rfl (infoRow _))) rfl ?_
        exact ⟨rfl, h5.out.2⟩
      · obtain ⟨e1, e2⟩ := rowP_not (op := k) (by omega)
        rw [e1, e2]
        have d1 : decide ((67 : Int) ≤ k) = true := by simp; omega
        have d3 : decide (67 ≤ k) = true := by simp; omega
        clear h0 h1 h2 e1 e2
        have hf := Aside0.mk (row_first (w := w) (A := #[.string ⟨#[]⟩, .int .u8 0, .int .u8 0, .int .u8 0, .bool false]) (s := 134))
        go_enter Tryd.func65, Tryd.ntmps65
        go_wp2_with (first | (refine wpList_store_row rfl 134 (.tmp 2) (.tmp 11) rfl w.heap.size noRow.cells rfl rfl 134 _ hf.out.1 (infoRow _) rfl (row_one _) ?_; go_must (have h5 := Aside0.mk (row_put hf.out.1 hf.out.2 noRow.cells)); go_must (generalize hw5 : World.setRow _ _ _ = w5 at h5); go_must (clear hw5)))
        (try simp only [Exit.inBlock, Exit.then])
        refine bodyPost_ret (results_cellT rfl _ _ _ _ rfl _ (run_loadVar_row _ _ _ _ _ _ _ h5.out.1 Tryd.underlying134 rfl (infoRow _))) rfl ?_
        exact ⟨rfl, h5.out.2⟩
end Go.Proofs.YtgaackedappmgaaDoor.K
