import Derived.Test.YtgaackedappmgaaDoorCe
import Derived.BigQuiet
import Derived.IntWalk
namespace Go.Proofs.YtgaackedappmgaaDoor.K
open Go.RowKit Go.Proofs.YtgaackedappmgaaDoorW.PrintWords Go.Proofs.YtgaackedappmgaaDoorW.PrintLast Go.Proofs.YtgaackedappmgaaDoorW.PrintMore
set_option linter.unusedVariables false
set_option linter.unusedSimpArgs false
set_option maxRecDepth 100000
def limP (kind : Int) : Int := if kind = 2 then 2000 else if kind = 3 then 64 else if kind = 4 then 512 else if kind = 5 then 128 else if kind = 6 then 64 else 1
def rightP (kind a : Int) : Bool := if kind = 1 then true else if kind = 7 then a == 8 || a == 16 || a == 32 else if kind = 8 then decide (1 ≤ a ∧ a ≤ 64) else decide (0 ≤ a ∧ a < limP kind)
theorem code_below (w : World) (n : Int) : Calls Tryd.prog 76 #[.int .i64 n] w fun e w' => e = .returned (.func (.func 84) #[] #[.pointer (some ⟨w.heap.size, 0, none⟩)]) ∧ w' = w.alloc (.cells #[.int .i64 n] 2) := by
  go_enter Tryd.func76, Tryd.ntmps76
  go_wp2
  go_ret
  exact ⟨rfl, rfl⟩
theorem code_below1 (w : World) (a n : Int) (b : Nat) (h : w.cell? ⟨b, 0, none⟩ = some (.int .i64 n)) : Calls Tryd.prog 84 #[.int .i64 a, .pointer (some ⟨b, 0, none⟩)] w fun e w' => e = .returned (.bool (decide (0 ≤ a ∧ a < n))) ∧ w' = w := by
  by_cases h0 : 0 ≤ a
  · by_cases h1 : a < n
    · have hE : Aside0 (decide (0 ≤ a ∧ a < n) = true) := ⟨by simp; omega⟩
      have d0 : decide (0 ≤ a) = true := by simpa using h0
      have d1 : decide (a < n) = true := by simpa using h1
      go_enter Tryd.func84, Tryd.ntmps84
      go_wp2
      go_ret
      exact ⟨by first | rfl | (rw [hE.out]; rfl), rfl⟩
    · have hE : Aside0 (decide (0 ≤ a ∧ a < n) = false) := ⟨by simp; omega⟩
      have d0 : decide (0 ≤ a) = true := by simpa using h0
      have d1 : decide (a < n) = false := by simpa using h1
      go_enter Tryd.func84, Tryd.ntmps84
      go_wp2
      go_ret
      exact ⟨by first | rfl | (rw [hE.out]; rfl), rfl⟩
  · have hE : Aside0 (decide (0 ≤ a ∧ a < n) = false) := ⟨by simp; omega⟩
    have d0 : decide (0 ≤ a) = false := by simpa using h0
    go_enter Tryd.func84, Tryd.ntmps84
    go_wp2
    go_ret
    exact ⟨by first | rfl | (rw [hE.out]; rfl), rfl⟩
theorem form3 (w : World) (a : Int) : Calls Tryd.prog 75 #[.int .i64 a] w fun e w' => e = .returned (.bool true) ∧ w' = w := by
  go_enter Tryd.func75, Tryd.ntmps75
  go_wp2
  go_ret
  exact ⟨rfl, rfl⟩
theorem form5 (w : World) (a : Int) : Calls Tryd.prog 78 #[.int .i64 a] w fun e w' => e = .returned (.bool (decide (1 ≤ a ∧ a ≤ 64))) ∧ w' = w := by
  by_cases h0 : 1 ≤ a
  · by_cases h1 : a ≤ 64
    · have hE : Aside0 (decide (1 ≤ a ∧ a ≤ 64) = true) := ⟨by simp; omega⟩
      have d0 : decide (1 ≤ a) = true := by simpa using h0
      have d1 : decide (a ≤ 64) = true := by simpa using h1
      go_enter Tryd.func78, Tryd.ntmps78
      go_wp2
      go_ret
      exact ⟨by first | rfl | (rw [hE.out]; rfl), rfl⟩
    · have hE : Aside0 (decide (1 ≤ a ∧ a ≤ 64) = false) := ⟨by simp; omega⟩
      have d0 : decide (1 ≤ a) = true := by simpa using h0
      have d1 : decide (a ≤ 64) = false := by simpa using h1
      go_enter Tryd.func78, Tryd.ntmps78
      go_wp2
      go_ret
      exact ⟨by first | rfl | (rw [hE.out]; rfl), rfl⟩
  · have hE : Aside0 (decide (1 ≤ a ∧ a ≤ 64) = false) := ⟨by simp; omega⟩
    have d0 : decide (1 ≤ a) = false := by simpa using h0
    go_enter Tryd.func78, Tryd.ntmps78
    go_wp2
    go_ret
    exact ⟨by first | rfl | (rw [hE.out]; rfl), rfl⟩
theorem form4 (w : World) (op : Int) : Calls Tryd.prog 77 #[.int .i64 op] w fun e w' => e = .returned (.bool (op == 8 || op == 16 || op == 32)) ∧ w' = w := by
  by_cases h0 : op = 8
  · subst h0
    go_enter Tryd.func77, Tryd.ntmps77
    go_wp2
    go_ret
    exact ⟨rfl, rfl⟩
  · have d0 : (op == 8) = false := by simpa using h0
    by_cases h1 : op = 16
    · subst h1
      clear d0 h0
      go_enter Tryd.func77, Tryd.ntmps77
      go_wp2
      go_ret
      exact ⟨rfl, rfl⟩
    · have d1 : (op == 16) = false := by simpa using h1
      clear h0 h1
      go_enter Tryd.func77, Tryd.ntmps77
      go_wp2
      go_ret
      exact ⟨by first | rfl | (rw [d0, d1]; rfl) | simp [d0, d1], rfl⟩
def rdF (k : Int) : FuncId := if k = 1 then 73 else if k = 0 then 79 else 69
def wrF (k : Int) : FuncId := if k = 1 then 74 else if k = 0 then 80 else 71
def rtF (k : Int) : FuncId := if k = 1 then 75 else if k = 7 then 77 else 78
def isF (k : Int) : Bool := k == 1 || k == 7 || k == 8
def RtOK (w w' : World) (kind : Int) (v : Value) : Prop := (v = .func (.func (rtF kind)) #[] #[] ∧ isF kind = true ∧ ∀ W a, Calls Tryd.prog (rtF kind) #[.int .i64 a] W fun e W' => e = .returned (.bool (rightP kind a)) ∧ W' = W) ∨
  (∃ b, v = .func (.func 84) #[] #[.pointer (some ⟨b, 0, none⟩)] ∧ isF kind = false ∧ w.heap.size ≤ b ∧ ∀ W a, Chg (fun k => k < w.heap.size) w' W → Calls Tryd.prog 84 #[.int .i64 a, .pointer (some ⟨b, 0, none⟩)] W fun e W' => e = .returned (.bool (rightP kind a)) ∧ W' = W)
theorem rtOK_below {w w' : World} {kind n : Int} {b : Nat} (hk : ∀ a, rightP kind a = decide (0 ≤ a ∧ a < n)) (hF : isF kind = false) (hb : w.heap.size ≤ b) (hc : w'.heap[b]? = some (.cells #[.int .i64 n] 2 (0, 0))) :
    RtOK w w' kind (.func (.func 84) #[] #[.pointer (some ⟨b, 0, none⟩)]) :=
  (.inr ⟨b, rfl, hF, hb, fun W a hW => by rw [hk]; exact code_below1 W a n b (blk_cell (hW.blk hc (by show ¬ _ < _; omega)) 0)⟩)
theorem wpList_store_at {P : Program} {ops : Array Oper} {rest : List Oper} {o : Oper} {a : Act} {w : World} {Q : Exit → Act → World → Prop} (hgd : o.guard = none) (ty : TypeId) (x y : Operand) (ho : o.op = .store ty x y)
    (g i : Nat) (v : Value) (hx : a.eval x = .pointer (some ⟨g, i, none⟩)) (hy : a.eval y = v) (h1 : v.oneCell' = true) {t : TypeId} {cs : Array Value} (hg : w.heap[g]? = some (.cells cs t (0, 0))) (hi : i < cs.size) (hs : (P.info? ty).map (·.size) = some 1)
    (h : wpList P ops Q rest (a.put o.dst undef) (w.setCell ⟨g, i, none⟩ v)) : wpList P ops Q (o :: rest) a w :=
  wpList_plain hgd fun K hK => by
    have hcell : w.cell? ⟨g, i, none⟩ = some cs[i] := by simp [World.cell?, hg, hi]
    have hfro : w.frozen? ⟨g, i, none⟩ = false := by simp [World.frozen?, hg]
    have hc : v.cells = #[v] := by cases v <;> first | rfl | cases h1
    have hadd : (⟨g, i, none⟩ : Addr).add 0 = ⟨g, i, none⟩ := by unfold Addr.add; simp
    have hrun : (storeVar ty ⟨g, i, none⟩ v).run P w = .ok () (w.setCell ⟨g, i, none⟩ v) := by
      cases hq : P.info? ty with
      | none => simp [hq] at hs
      | some inf =>
        have hz : inf.size = 1 := by simpa [hq] using hs
        simp [storeVar, sizeOf, typeInfo, hq, hc, hz, storeCells, hadd, run_store P w _ v _ h1, hcell, hfro]
    unfold Oper.wp execOp
    simp only [ho, hx, hy, Instr.storeAt, Instr.sureAddr, Sem.run_bind, Sem.run_pure, Result.andThen_ok, hrun]
    exact hK _ _ h
theorem two_blocks {w w1 : World} {A : Array Value} {B cs : Array Value} {s t : TypeId} (h : ((w.alloc (.cells A s)).alloc (.cells B t)).setRow (w.heap.size + 1) cs = w1) :
    w1.heap[w.heap.size]? = some (.cells A s (0, 0)) ∧ w1.heap[w.heap.size + 1]? = some (.cells cs t (0, 0)) ∧ Chg (fun _ => False) w w1 := arr_made h
theorem third_block {w w1 w2 : World} {N i : Nat} {A cs C : Array Value} {s t u : TypeId} {v : Value} (hN : N = w.heap.size) (h0 : w1.heap[N]? = some (.cells A s (0, 0))) (h1 : w1.heap[N + 1]? = some (.cells cs t (0, 0))) (hc : Chg (fun _ => False) w w1)
    (h : (w1.alloc (.cells C u)).setCell ⟨N + 1, i, none⟩ v = w2) : w2.heap[N]? = some (.cells A s (0, 0)) ∧ w2.heap[N + 1]? = some (.cells (cs.setIfInBounds i v) t (0, 0)) ∧ w2.heap[w1.heap.size]? = some (.cells C u (0, 0)) ∧ w.heap.size ≤ w1.heap.size ∧ Chg (fun _ => False) w w2 := by
  subst h
  have hl := blk_lt h1
  refine ⟨?_, blk_set (heap_alloc_old3 w1 _ h1) i v, ?_, hc.size, (hc.alloc _).setCell (fun h => by simp at h; omega) _⟩
  · exact blk_far (heap_alloc_old3 w1 _ h0) (by simp) v
  · exact blk_far (heap_alloc_new w1 _) (by simp; omega) v
theorem two_set {w w1 w2 : World} {N i : Nat} {A cs : Array Value} {s t : TypeId} {v : Value} (hN : N = w.heap.size) (h0 : w1.heap[N]? = some (.cells A s (0, 0))) (h1 : w1.heap[N + 1]? = some (.cells cs t (0, 0))) (hc : Chg (fun _ => False) w w1)
    (h : w1.setCell ⟨N + 1, i, none⟩ v = w2) : w2.heap[N]? = some (.cells A s (0, 0)) ∧ w2.heap[N + 1]? = some (.cells (cs.setIfInBounds i v) t (0, 0)) ∧ Chg (fun _ => False) w w2 := by
  subst h
  exact ⟨blk_far h0 (by simp) v, blk_set h1 i v, hc.setCell (fun h => by simp at h; omega) _⟩
theorem all3 {a b c : Value} (ha : a.oneCell' = true) (hb : b.oneCell' = true) (hc : c.oneCell' = true) : (#[a, b, c] : Array Value).all (·.oneCell') = true := by simp [ha, hb, hc]
theorem infoForm : (Tryd.prog.info? 140).map (·.size) = some 3 := by kernel_rfl
theorem infoRight : (Tryd.prog.info? 75).map (·.size) = some 1 := by kernel_rfl
theorem row_put3 {w w1 : World} {A : Array Value} {s : TypeId} (h0 : w1.heap[w.heap.size]? = some (.cells A s (0, 0))) (hc : Chg (fun _ => False) w w1) (cs : Array Value) :
    (w1.setRow w.heap.size cs).heap[w.heap.size]? = some (.cells cs s (0, 0)) ∧ Chg (fun _ => False) w (w1.setRow w.heap.size cs) ∧ ∀ k o, k ≠ w.heap.size → w1.heap[k]? = some o → (w1.setRow w.heap.size cs).heap[k]? = some o :=
  ⟨(row_put h0 hc cs).1, (row_put h0 hc cs).2, fun k o hk ho => (setRow_other w1 _ k cs hk).trans ho⟩
set_option maxHeartbeats 4000000
theorem code_formOf (w : World) (kind : Int) (h0 : 0 ≤ kind) (h8 : kind ≤ 8) : Calls Tryd.prog 66 #[.int .u8 kind] w fun e w' => ∃ ft, e = .returned (.agg #[.func (.func (rdF kind)) #[] #[], .func (.func (wrF kind)) #[] #[], ft]) ∧ RtOK w w' kind ft ∧ Chg (fun _ => False) w w' := by
  by_cases k2 : kind = 2
  · subst k2
    go_enter Tryd.func66, Tryd.ntmps66
    go_wp2_with (first | (refine wpList_store_row rfl 140 (.tmp 3) (.tmp 4) rfl (w.heap.size + 1) #[.func (.func 69) #[] #[], .func (.func 71) #[] #[], .nilFunc] rfl rfl 140 _ (alloc2_new w _ _) infoForm rfl (all3 rfl rfl rfl) ?_; go_must (generalize hw1 : World.setRow _ _ _ = w1); go_must (obtain ⟨hb0, hb1, hc1⟩ := two_blocks hw1); go_must (have hz1 := hc1.size); go_must (replace hb0 := Aside0.mk hb0); go_must (replace hb1 := Aside0.mk hb1); go_must (replace hc1 := Aside0.mk hc1); go_must (clear hw1)) | (go_at_call 76; go_must (refine (code_below _ 2000).mono ?_); go_must (rintro e w0 ⟨rfl, rfl⟩)) | (refine wpList_store_at rfl 75 (.tmp 14) (.tmp 13) rfl (w.heap.size + 1) 2 (.func (.func 84) #[] #[.pointer (some ⟨w1.heap.size, 0, none⟩)]) rfl rfl rfl (heap_alloc_old3 w1 _ hb1.out) (by decide) infoRight ?_; go_must (generalize hw2 : World.setCell _ _ _ = w2); go_must (obtain ⟨hb2, hb3, hb4, hz2, hc2⟩ := third_block rfl hb0.out hb1.out hc1.out hw2); go_must (have x0 := row_cell (j := 0) hb3 rfl); go_must (have x1 := row_cell (j := 1) hb3 rfl); go_must (have x2 := row_cell (j := 2) hb3 rfl); go_must (replace hb2 := Aside0.mk hb2); go_must (replace hb3 := Aside0.mk hb3); go_must (replace hb4 := Aside0.mk hb4); go_must (replace hc2 := Aside0.mk hc2); go_must (clear hw2 hb3)) | (refine wpList_store_row rfl 140 (.tmp 2) (.tmp 37) rfl w.heap.size #[.func (.func 69) #[] #[], .func (.func 71) #[] #[], .func (.func 84) #[] #[.pointer (some ⟨w1.heap.size, 0, none⟩)]] rfl rfl 140 _ hb2.out infoForm rfl (all3 rfl rfl rfl) ?_; go_must (have h5 := Aside0.mk (row_put3 hb2.out hc2.out #[.func (.func 69) #[] #[], .func (.func 71) #[] #[], .func (.func 84) #[] #[.pointer (some ⟨w1.heap.size, 0, none⟩)]])); go_must (generalize hw5 : World.setRow _ _ _ = w5 at h5); go_must (clear hw5)))
    (try simp only [Exit.inBlock, Exit.then])
    refine bodyPost_ret (results_cell1 rfl _ _ _ _ rfl _ (run_loadVar_row _ _ _ _ _ _ _ h5.out.1 Tryd.underlying140 rfl infoForm)) rfl ?_
    exact ⟨_, rfl, rtOK_below (fun a => rfl) rfl hz2 (h5.out.2.2 w1.heap.size _ (by have := blk_lt hb0.out; omega) hb4.out), h5.out.2.1⟩
  by_cases k1 : kind = 1
  · subst k1
    go_enter Tryd.func66, Tryd.ntmps66
    go_wp2_with (first | (refine wpList_store_row rfl 140 (.tmp 3) (.tmp 4) rfl (w.heap.size + 1) #[.func (.func 69) #[] #[], .func (.func 71) #[] #[], .nilFunc] rfl rfl 140 _ (alloc2_new w _ _) infoForm rfl (all3 rfl rfl rfl) ?_; go_must (generalize hw1 : World.setRow _ _ _ = w1); go_must (obtain ⟨hb0, hb1, hc1⟩ := two_blocks hw1); go_must (have hz1 := hc1.size); go_must (replace hb0 := Aside0.mk hb0); go_must (replace hb1 := Aside0.mk hb1); go_must (replace hc1 := Aside0.mk hc1); go_must (clear hw1)) | (refine wpList_store_row rfl 140 (.tmp 2) (.tmp 10) rfl w.heap.size #[.func (.func 73) #[] #[], .func (.func 74) #[] #[], .func (.func 75) #[] #[]] rfl rfl 140 _ hb0.out infoForm rfl (all3 rfl rfl rfl) ?_; go_must (have h5 := Aside0.mk (row_put3 hb0.out hc1.out #[.func (.func 73) #[] #[], .func (.func 74) #[] #[], .func (.func 75) #[] #[]])); go_must (generalize hw5 : World.setRow _ _ _ = w5 at h5); go_must (clear hw5)))
    (try simp only [Exit.inBlock, Exit.then])
    refine bodyPost_ret (results_cell1 rfl _ _ _ _ rfl _ (run_loadVar_row _ _ _ _ _ _ _ h5.out.1 Tryd.underlying140 rfl infoForm)) rfl ?_
    exact ⟨_, rfl, (.inl ⟨rfl, rfl, fun W a => form3 W a⟩), h5.out.2.1⟩
  by_cases k3 : kind = 3
  · subst k3
    go_enter Tryd.func66, Tryd.ntmps66
    go_wp2_with (first | (refine wpList_store_row rfl 140 (.tmp 3) (.tmp 4) rfl (w.heap.size + 1) #[.func (.func 69) #[] #[], .func (.func 71) #[] #[], .nilFunc] rfl rfl 140 _ (alloc2_new w _ _) infoForm rfl (all3 rfl rfl rfl) ?_; go_must (generalize hw1 : World.setRow _ _ _ = w1); go_must (obtain ⟨hb0, hb1, hc1⟩ := two_blocks hw1); go_must (have hz1 := hc1.size); go_must (replace hb0 := Aside0.mk hb0); go_must (replace hb1 := Aside0.mk hb1); go_must (replace hc1 := Aside0.mk hc1); go_must (clear hw1)) | (go_at_call 76; go_must (refine (code_below _ 64).mono ?_); go_must (rintro e w0 ⟨rfl, rfl⟩)) | (refine wpList_store_at rfl 75 (.tmp 18) (.tmp 17) rfl (w.heap.size + 1) 2 (.func (.func 84) #[] #[.pointer (some ⟨w1.heap.size, 0, none⟩)]) rfl rfl rfl (heap_alloc_old3 w1 _ hb1.out) (by decide) infoRight ?_; go_must (generalize hw2 : World.setCell _ _ _ = w2); go_must (obtain ⟨hb2, hb3, hb4, hz2, hc2⟩ := third_block rfl hb0.out hb1.out hc1.out hw2); go_must (have x0 := row_cell (j := 0) hb3 rfl); go_must (have x1 := row_cell (j := 1) hb3 rfl); go_must (have x2 := row_cell (j := 2) hb3 rfl); go_must (replace hb2 := Aside0.mk hb2); go_must (replace hb3 := Aside0.mk hb3); go_must (replace hb4 := Aside0.mk hb4); go_must (replace hc2 := Aside0.mk hc2); go_must (clear hw2 hb3)) | (refine wpList_store_row rfl 140 (.tmp 2) (.tmp 37) rfl w.heap.size #[.func (.func 69) #[] #[], .func (.func 71) #[] #[], .func (.func 84) #[] #[.pointer (some ⟨w1.heap.size, 0, none⟩)]] rfl rfl 140 _ hb2.out infoForm rfl (all3 rfl rfl rfl) ?_; go_must (have h5 := Aside0.mk (row_put3 hb2.out hc2.out #[.func (.func 69) #[] #[], .func (.func 71) #[] #[], .func (.func 84) #[] #[.pointer (some ⟨w1.heap.size, 0, none⟩)]])); go_must (generalize hw5 : World.setRow _ _ _ = w5 at h5); go_must (clear hw5)))
    (try simp only [Exit.inBlock, Exit.then])
    refine bodyPost_ret (results_cell1 rfl _ _ _ _ rfl _ (run_loadVar_row _ _ _ _ _ _ _ h5.out.1 Tryd.underlying140 rfl infoForm)) rfl ?_
    exact ⟨_, rfl, rtOK_below (fun a => rfl) rfl hz2 (h5.out.2.2 w1.heap.size _ (by have := blk_lt hb0.out; omega) hb4.out), h5.out.2.1⟩
  by_cases k4 : kind = 4
  · subst k4
    go_enter Tryd.func66, Tryd.ntmps66
    go_wp2_with (first | (refine wpList_store_row rfl 140 (.tmp 3) (.tmp 4) rfl (w.heap.size + 1) #[.func (.func 69) #[] #[], .func (.func 71) #[] #[], .nilFunc] rfl rfl 140 _ (alloc2_new w _ _) infoForm rfl (all3 rfl rfl rfl) ?_; go_must (generalize hw1 : World.setRow _ _ _ = w1); go_must (obtain ⟨hb0, hb1, hc1⟩ := two_blocks hw1); go_must (have hz1 := hc1.size); go_must (replace hb0 := Aside0.mk hb0); go_must (replace hb1 := Aside0.mk hb1); go_must (replace hc1 := Aside0.mk hc1); go_must (clear hw1)) | (go_at_call 76; go_must (refine (code_below _ 512).mono ?_); go_must (rintro e w0 ⟨rfl, rfl⟩)) | (refine wpList_store_at rfl 75 (.tmp 22) (.tmp 21) rfl (w.heap.size + 1) 2 (.func (.func 84) #[] #[.pointer (some ⟨w1.heap.size, 0, none⟩)]) rfl rfl rfl (heap_alloc_old3 w1 _ hb1.out) (by decide) infoRight ?_; go_must (generalize hw2 : World.setCell _ _ _ = w2); go_must (obtain ⟨hb2, hb3, hb4, hz2, hc2⟩ := third_block rfl hb0.out hb1.out hc1.out hw2); go_must (have x0 := row_cell (j := 0) hb3 rfl); go_must (have x1 := row_cell (j := 1) hb3 rfl); go_must (have x2 := row_cell (j := 2) hb3 rfl); go_must (replace hb2 := Aside0.mk hb2); go_must (replace hb3 := Aside0.mk hb3); go_must (replace hb4 := Aside0.mk hb4); go_must (replace hc2 := Aside0.mk hc2); go_must (clear hw2 hb3)) | (refine wpList_store_row rfl 140 (.tmp 2) (.tmp 37) rfl w.heap.size #[.func (.func 69) #[] #[], .func (.func 71) #[] #[], .func (.func 84) #[] #[.pointer (some ⟨w1.heap.size, 0, none⟩)]] rfl rfl 140 _ hb2.out infoForm rfl (all3 rfl rfl rfl) ?_; go_must (have h5 := Aside0.mk (row_put3 hb2.out hc2.out #[.func (.func 69) #[] #[], .func (.func 71) #[] #[], .func (.func 84) #[] #[.pointer (some ⟨w1.heap.size, 0, none⟩)]])); go_must (generalize hw5 : World.setRow _ _ _ = w5 at h5); go_must (clear hw5)))
    (try simp only [Exit.inBlock, Exit.then])
    refine bodyPost_ret (results_cell1 rfl _ _ _ _ rfl _ (run_loadVar_row _ _ _ _ _ _ _ h5.out.1 Tryd.underlying140 rfl infoForm)) rfl ?_
    exact ⟨_, rfl, rtOK_below (fun a => rfl) rfl hz2 (h5.out.2.2 w1.heap.size _ (by have := blk_lt hb0.out; omega) hb4.out), h5.out.2.1⟩
  by_cases k5 : kind = 5
  · subst k5
    go_enter Tryd.func66, Tryd.ntmps66
    go_wp2_with (first | (refine wpList_store_row rfl 140 (.tmp 3) (.tmp 4) rfl (w.heap.size + 1) #[.func (.func 69) #[] #[], .func (.func 71) #[] #[], .nilFunc] rfl rfl 140 _ (alloc2_new w _ _) infoForm rfl (all3 rfl rfl rfl) ?_; go_must (generalize hw1 : World.setRow _ _ _ = w1); go_must (obtain ⟨hb0, hb1, hc1⟩ := two_blocks hw1); go_must (have hz1 := hc1.size); go_must (replace hb0 := Aside0.mk hb0); go_must (replace hb1 := Aside0.mk hb1); go_must (replace hc1 := Aside0.mk hc1); go_must (clear hw1)) | (go_at_call 76; go_must (refine (code_below _ 128).mono ?_); go_must (rintro e w0 ⟨rfl, rfl⟩)) | (refine wpList_store_at rfl 75 (.tmp 26) (.tmp 25) rfl (w.heap.size + 1) 2 (.func (.func 84) #[] #[.pointer (some ⟨w1.heap.size, 0, none⟩)]) rfl rfl rfl (heap_alloc_old3 w1 _ hb1.out) (by decide) infoRight ?_; go_must (generalize hw2 : World.setCell _ _ _ = w2); go_must (obtain ⟨hb2, hb3, hb4, hz2, hc2⟩ := third_block rfl hb0.out hb1.out hc1.out hw2); go_must (have x0 := row_cell (j := 0) hb3 rfl); go_must (have x1 := row_cell (j := 1) hb3 rfl); go_must (have x2 := row_cell (j := 2) hb3 rfl); go_must (replace hb2 := Aside0.mk hb2); go_must (replace hb3 := Aside0.mk hb3); go_must (replace hb4 := Aside0.mk hb4); go_must (replace hc2 := Aside0.mk hc2); go_must (clear hw2 hb3)) | (refine wpList_store_row rfl 140 (.tmp 2) (.tmp 37) rfl w.heap.size #[.func (.func 69) #[] #[], .func (.func 71) #[] #[], .func (.func 84) #[] #[.pointer (some ⟨w1.heap.size, 0, none⟩)]] rfl rfl 140 _ hb2.out infoForm rfl (all3 rfl rfl rfl) ?_; go_must (have h5 := Aside0.mk (row_put3 hb2.out hc2.out #[.func (.func 69) #[] #[], .func (.func 71) #[] #[], .func (.func 84) #[] #[.pointer (some ⟨w1.heap.size, 0, none⟩)]])); go_must (generalize hw5 : World.setRow _ _ _ = w5 at h5); go_must (clear hw5)))
    (try simp only [Exit.inBlock, Exit.then])
    refine bodyPost_ret (results_cell1 rfl _ _ _ _ rfl _ (run_loadVar_row _ _ _ _ _ _ _ h5.out.1 Tryd.underlying140 rfl infoForm)) rfl ?_
    exact ⟨_, rfl, rtOK_below (fun a => rfl) rfl hz2 (h5.out.2.2 w1.heap.size _ (by have := blk_lt hb0.out; omega) hb4.out), h5.out.2.1⟩
  by_cases k6 : kind = 6
  · subst k6
    go_enter Tryd.func66, Tryd.ntmps66
    go_wp2_with (first | (refine wpList_store_row rfl 140 (.tmp 3) (.tmp 4) rfl (w.heap.size + 1) #[.func (.func 69) #[] #[], .func (.func 71) #[] #[], .nilFunc] rfl rfl 140 _ (alloc2_new w _ _) infoForm rfl (all3 rfl rfl rfl) ?_; go_must (generalize hw1 : World.setRow _ _ _ = w1); go_must (obtain ⟨hb0, hb1, hc1⟩ := two_blocks hw1); go_must (have hz1 := hc1.size); go_must (replace hb0 := Aside0.mk hb0); go_must (replace hb1 := Aside0.mk hb1); go_must (replace hc1 := Aside0.mk hc1); go_must (clear hw1)) | (go_at_call 76; go_must (refine (code_below _ 64).mono ?_); go_must (rintro e w0 ⟨rfl, rfl⟩)) | (refine wpList_store_at rfl 75 (.tmp 30) (.tmp 29) rfl (w.heap.size + 1) 2 (.func (.func 84) #[] #[.pointer (some ⟨w1.heap.size, 0, none⟩)]) rfl rfl rfl (heap_alloc_old3 w1 _ hb1.out) (by decide) infoRight ?_; go_must (generalize hw2 : World.setCell _ _ _ = w2); go_must (obtain ⟨hb2, hb3, hb4, hz2, hc2⟩ := third_block rfl hb0.out hb1.out hc1.out hw2); go_must (have x0 := row_cell (j := 0) hb3 rfl); go_must (have x1 := row_cell (j := 1) hb3 rfl); go_must (have x2 := row_cell (j := 2) hb3 rfl); go_must (replace hb2 := Aside0.mk hb2); go_must (replace hb3 := Aside0.mk hb3); go_must (replace hb4 := Aside0.mk hb4); go_must (replace hc2 := Aside0.mk hc2); go_must (clear hw2 hb3)) | (refine wpList_store_row rfl 140 (.tmp 2) (.tmp 37) rfl w.heap.size #[.func (.func 69) #[] #[], .func (.func 71) #[] #[], .func (.func 84) #[] #[.pointer (some ⟨w1.heap.size, 0, none⟩)]] rfl rfl 140 _ hb2.out infoForm rfl (all3 rfl rfl rfl) ?_; go_must (have h5 := Aside0.mk (row_put3 hb2.out hc2.out #[.func (.func 69) #[] #[], .func (.func 71) #[] #[], .func (.func 84) #[] #[.pointer (some ⟨w1.heap.size, 0, none⟩)]])); go_must (generalize hw5 : World.setRow _ _ _ = w5 at h5); go_must (clear hw5)))
    (try simp only [Exit.inBlock, Exit.then])
    refine bodyPost_ret (results_cell1 rfl _ _ _ _ rfl _ (run_loadVar_row _ _ _ _ _ _ _ h5.out.1 Tryd.underlying140 rfl infoForm)) rfl ?_
    exact ⟨_, rfl, rtOK_below (fun a => rfl) rfl hz2 (h5.out.2.2 w1.heap.size _ (by have := blk_lt hb0.out; omega) hb4.out), h5.out.2.1⟩
  by_cases k7 : kind = 7
  · subst k7
    go_enter Tryd.func66, Tryd.ntmps66
    go_wp2_with (first | (refine wpList_store_row rfl 140 (.tmp 3) (.tmp 4) rfl (w.heap.size + 1) #[.func (.func 69) #[] #[], .func (.func 71) #[] #[], .nilFunc] rfl rfl 140 _ (alloc2_new w _ _) infoForm rfl (all3 rfl rfl rfl) ?_; go_must (generalize hw1 : World.setRow _ _ _ = w1); go_must (obtain ⟨hb0, hb1, hc1⟩ := two_blocks hw1); go_must (have hz1 := hc1.size); go_must (replace hb0 := Aside0.mk hb0); go_must (replace hb1 := Aside0.mk hb1); go_must (replace hc1 := Aside0.mk hc1); go_must (clear hw1)) | (refine wpList_store_at rfl 75 (.tmp 33) (.func 77) rfl (w.heap.size + 1) 2 (.func (.func 77) #[] #[]) rfl rfl rfl hb1.out (by decide) infoRight ?_; go_must (generalize hw2 : World.setCell _ _ _ = w2); go_must (obtain ⟨hb2, hb3, hc2⟩ := two_set rfl hb0.out hb1.out hc1.out hw2); go_must (have x0 := row_cell (j := 0) hb3 rfl); go_must (have x1 := row_cell (j := 1) hb3 rfl); go_must (have x2 := row_cell (j := 2) hb3 rfl); go_must (replace hb2 := Aside0.mk hb2); go_must (replace hc2 := Aside0.mk hc2); go_must (clear hw2 hb3)) | (refine wpList_store_row rfl 140 (.tmp 2) (.tmp 37) rfl w.heap.size #[.func (.func 69) #[] #[], .func (.func 71) #[] #[], .func (.func 77) #[] #[]] rfl rfl 140 _ hb2.out infoForm rfl (all3 rfl rfl rfl) ?_; go_must (have h5 := Aside0.mk (row_put3 hb2.out hc2.out #[.func (.func 69) #[] #[], .func (.func 71) #[] #[], .func (.func 77) #[] #[]])); go_must (generalize hw5 : World.setRow _ _ _ = w5 at h5); go_must (clear hw5)))
    (try simp only [Exit.inBlock, Exit.then])
    refine bodyPost_ret (results_cell1 rfl _ _ _ _ rfl _ (run_loadVar_row _ _ _ _ _ _ _ h5.out.1 Tryd.underlying140 rfl infoForm)) rfl ?_
    exact ⟨_, rfl, (.inl ⟨rfl, rfl, fun W a => form4 W a⟩), h5.out.2.1⟩
  by_cases k8 : kind = 8
  · subst k8
    go_enter Tryd.func66, Tryd.ntmps66
    go_wp2_with (first | (refine wpList_store_row rfl 140 (.tmp 3) (.tmp 4) rfl (w.heap.size + 1) #[.func (.func 69) #[] #[], .func (.func 71) #[] #[], .nilFunc] rfl rfl 140 _ (alloc2_new w _ _) infoForm rfl (all3 rfl rfl rfl) ?_; go_must (generalize hw1 : World.setRow _ _ _ = w1); go_must (obtain ⟨hb0, hb1, hc1⟩ := two_blocks hw1); go_must (have hz1 := hc1.size); go_must (replace hb0 := Aside0.mk hb0); go_must (replace hb1 := Aside0.mk hb1); go_must (replace hc1 := Aside0.mk hc1); go_must (clear hw1)) | (refine wpList_store_at rfl 75 (.tmp 36) (.func 78) rfl (w.heap.size + 1) 2 (.func (.func 78) #[] #[]) rfl rfl rfl hb1.out (by decide) infoRight ?_; go_must (generalize hw2 : World.setCell _ _ _ = w2); go_must (obtain ⟨hb2, hb3, hc2⟩ := two_set rfl hb0.out hb1.out hc1.out hw2); go_must (have x0 := row_cell (j := 0) hb3 rfl); go_must (have x1 := row_cell (j := 1) hb3 rfl); go_must (have x2 := row_cell (j := 2) hb3 rfl); go_must (replace hb2 := Aside0.mk hb2); go_must (replace hc2 := Aside0.mk hc2); go_must (clear hw2 hb3)) | (refine wpList_store_row rfl 140 (.tmp 2) (.tmp 37) rfl w.heap.size #[.func (.func 69) #[] #[], .func (.func 71) #[] #[], .func (.func 78) #[] #[]] rfl rfl 140 _ hb2.out infoForm rfl (all3 rfl rfl rfl) ?_; go_must (have h5 := Aside0.mk (row_put3 hb2.out hc2.out #[.func (.func 69) #[] #[], .func (.func 71) #[] #[], .func (.func 78) #[] #[]])); go_must (generalize hw5 : World.setRow _ _ _ = w5 at h5); go_must (clear hw5)))
    (try simp only [Exit.inBlock, Exit.then])
    refine bodyPost_ret (results_cell1 rfl _ _ _ _ rfl _ (run_loadVar_row _ _ _ _ _ _ _ h5.out.1 Tryd.underlying140 rfl infoForm)) rfl ?_
    exact ⟨_, rfl, (.inl ⟨rfl, rfl, fun W a => form5 W a⟩), h5.out.2.1⟩
  obtain rfl : kind = 0 := by omega
  clear k1 k2 k3 k4 k5 k6 k7 k8
  go_enter Tryd.func66, Tryd.ntmps66
  go_wp2_with (first | (refine wpList_store_row rfl 140 (.tmp 3) (.tmp 4) rfl (w.heap.size + 1) #[.func (.func 69) #[] #[], .func (.func 71) #[] #[], .nilFunc] rfl rfl 140 _ (alloc2_new w _ _) infoForm rfl (all3 rfl rfl rfl) ?_; go_must (generalize hw1 : World.setRow _ _ _ = w1); go_must (obtain ⟨hb0, hb1, hc1⟩ := two_blocks hw1); go_must (have hz1 := hc1.size); go_must (replace hb0 := Aside0.mk hb0); go_must (replace hb1 := Aside0.mk hb1); go_must (replace hc1 := Aside0.mk hc1); go_must (clear hw1)) | (go_at_call 76; go_must (refine (code_below _ 1).mono ?_); go_must (rintro e w0 ⟨rfl, rfl⟩); go_must (have hb4 := Aside0.mk (heap_alloc_new w1 (.cells #[.int .i64 1] 2))); go_must (have hb2 := Aside0.mk (heap_alloc_old3 w1 (.cells #[.int .i64 1] 2) hb0.out)); go_must (have hc2 := Aside0.mk (hc1.out.alloc (.cells #[.int .i64 1] 2)))) | (refine wpList_store_row rfl 140 (.tmp 2) (.tmp 7) rfl w.heap.size #[.func (.func 79) #[] #[], .func (.func 80) #[] #[], .func (.func 84) #[] #[.pointer (some ⟨w1.heap.size, 0, none⟩)]] rfl rfl 140 _ hb2.out infoForm rfl (all3 rfl rfl rfl) ?_; go_must (have h5 := Aside0.mk (row_put3 hb2.out hc2.out #[.func (.func 79) #[] #[], .func (.func 80) #[] #[], .func (.func 84) #[] #[.pointer (some ⟨w1.heap.size, 0, none⟩)]])); go_must (generalize hw5 : World.setRow _ _ _ = w5 at h5); go_must (clear hw5)))
  (try simp only [Exit.inBlock, Exit.then])
  refine bodyPost_ret (results_cell1 rfl _ _ _ _ rfl _ (run_loadVar_row _ _ _ _ _ _ _ h5.out.1 Tryd.underlying140 rfl infoForm)) rfl ?_
  exact ⟨_, rfl, rtOK_below (fun a => rfl) rfl hz1 (h5.out.2.2 w1.heap.size _ (by have := blk_lt hb0.out; omega) hb4.out), h5.out.2.1⟩
theorem code_form1 (w : World) : Calls Tryd.prog 66 #[.int .u8 1] w fun e w' => e = .returned (.agg #[.func (.func 73) #[] #[], .func (.func 74) #[] #[], .func (.func 75) #[] #[]]) ∧ Chg (fun _ => False) w w' :=
  (code_formOf w 1 (by decide) (by decide)).mono fun e w' ⟨v, he, hv, hc⟩ => by
    rcases hv with ⟨rfl, _, _⟩ | ⟨b, rfl, h, _⟩
    · exact ⟨he, hc⟩
    · cases h
theorem code_right1 (w : World) (a : Int) : Calls Tryd.prog 75 #[.int .i64 a] w fun e w' => e = .returned (.bool (rightP 1 a)) ∧ w' = w := form3 w a
theorem code_form7 (w : World) : Calls Tryd.prog 66 #[.int .u8 7] w fun e w' => e = .returned (.agg #[.func (.func 69) #[] #[], .func (.func 71) #[] #[], .func (.func 77) #[] #[]]) ∧ Chg (fun _ => False) w w' :=
  (code_formOf w 7 (by decide) (by decide)).mono fun e w' ⟨v, he, hv, hc⟩ => by
    rcases hv with ⟨rfl, _, _⟩ | ⟨b, rfl, h, _⟩
    · exact ⟨he, hc⟩
    · cases h
theorem code_right7 (w : World) (a : Int) : Calls Tryd.prog 77 #[.int .i64 a] w fun e w' => e = .returned (.bool (rightP 7 a)) ∧ w' = w := form4 w a
theorem code_form8 (w : World) : Calls Tryd.prog 66 #[.int .u8 8] w fun e w' => e = .returned (.agg #[.func (.func 69) #[] #[], .func (.func 71) #[] #[], .func (.func 78) #[] #[]]) ∧ Chg (fun _ => False) w w' :=
  (code_formOf w 8 (by decide) (by decide)).mono fun e w' ⟨v, he, hv, hc⟩ => by
    rcases hv with ⟨rfl, _, _⟩ | ⟨b, rfl, h, _⟩
    · exact ⟨he, hc⟩
    · cases h
theorem code_right8 (w : World) (a : Int) : Calls Tryd.prog 78 #[.int .i64 a] w fun e w' => e = .returned (.bool (rightP 8 a)) ∧ w' = w := form5 w a
theorem code_formB (w : World) (kind : Int) (h0 : 0 ≤ kind) (h8 : kind ≤ 8) (hF : isF kind = false) : Calls Tryd.prog 66 #[.int .u8 kind] w fun e w' => ∃ b, e = .returned (.agg #[.func (.func (rdF kind)) #[] #[], .func (.func (wrF kind)) #[] #[], .func (.func 84) #[] #[.pointer (some ⟨b, 0, none⟩)]]) ∧ w.heap.size ≤ b ∧ (∀ W a, Chg (fun k => k < w.heap.size) w' W → Calls Tryd.prog 84 #[.int .i64 a, .pointer (some ⟨b, 0, none⟩)] W fun e W' => e = .returned (.bool (rightP kind a)) ∧ W' = W) ∧ Chg (fun _ => False) w w' :=
  (code_formOf w kind h0 h8).mono fun e w' ⟨v, he, hv, hc⟩ => by
    rcases hv with ⟨rfl, h, _⟩ | ⟨b, rfl, _, hb, h⟩
    · rw [hF] at h; cases h
    · exact ⟨b, he, hb, h, hc⟩
end Go.Proofs.YtgaackedappmgaaDoor.K
