import Derived.Test.YtdoghjmanogelaaTe
import Derived.IntWalk
import Derived.BigQuiet
import Derived.Deep.RegionHeld3
namespace Go.Proofs.Ytdoghjmanogelaa.K
open Go.RowKit Go.Proofs.YtdoghjmanogelaaW.PrintWords Go.Proofs.YtdoghjmanogelaaW.PrintLast Go.Proofs.YtdoghjmanogelaaW.PrintMore
set_option linter.unusedVariables false
set_option linter.unusedSimpArgs false
set_option maxRecDepth 100000
def ObjPost (w : World) (lo g : Nat) (tA oA bA : Option Addr) (tc oc bc : Nat) (s : QS) (r : QO × Bk) (va vb : SV) (e : Ending) (w' : World) : Prop := ∃ vt vo vi vk : SV, e = .returned (.agg #[.int .i64 r.1.kind, svl vi, svl vk, .int .i64 r.1.fn, .int .i64 r.1.cap, .bool r.1.shut]) ∧ BkR w' lo g tA oA bA tc oc bc s r.2 vt vo va vb ∧ Turn w w' lo [3, 114] ∧ Ow kQV 56 w' w.heap.size vi r.1.items ∧ Ow (Kd.int .i64) 2 w' w.heap.size vk r.1.keys
theorem fieldsS_len (s : QS) (b : Bk) (keys : List Int) (items : List QV) : ∀ n, (fieldsS s b keys items n).1.1.length ≤ n ∧ (fieldsS s b keys items n).1.2.length ≤ n
  | 0 => ⟨Nat.le_refl _, Nat.le_refl _⟩
  | n + 1 => by
    have h := fieldsS_len s b keys items n
    rw [fieldsS_succ]
    unfold fieldS
    cases keys[n]? with
    | none => cases items[n]? with
      | none => simp only; omega
      | some v => simp only [List.length_append, List.length_singleton]; omega
    | some k => cases items[n]? with
      | none => simp only [List.length_append, List.length_singleton]; omega
      | some v => simp only [List.length_append, List.length_singleton]; omega
theorem cells_t {w : World} {j : Nat} {cs cs' : Array Value} {t t' : TypeId} (h : w.heap[j]? = some (.cells cs t (0, 0))) (h' : w.heap[j]? = some (.cells cs' t' (0, 0))) : t' = t := by
  rw [h] at h'
  injection h' with h'
  injection h' with _ h'
  exact h'.symm
set_option maxHeartbeats 1000000
theorem book_objectN (w0 w : World) (g : Nat) (tA oA bA : Option Addr) (tc oc bc : Nat) (s : QS) (b : Bk) (vt vo va vb : SV) (ros : List RO) (rbs : List RB) (L : List (List RF)) (iA kA : Option Addr) (iN iC kN kC : Nat) (xk xf xc : Int) (xh : Bool) (its : List QV) (ks : List Int) (h0 : Chg (fun _ => False) w0 w) (h : BkR w w0.heap.size g tA oA bA tc oc bc s b vt vo va vb) (hok : BkOk s b) (hV : SView w0 tA oA bA s ros rbs L) (hn : s.texts.length ≤ 1048576) (hno : s.objs.length ≤ 1048576) (hi : Kd.C kQV w0 iA iN its) (hkk : Kd.C (Kd.int .i64) w0 kA kN ks) (hnn : ∀ v ∈ its, v.n ≤ 9223372036854775807) (hkn : ∀ v ∈ ks, v ≤ 9223372036854775807) (hln : its.length ≤ 1048576) (hlk : ks.length ≤ 1048576) (hk : xk ≠ 7) :
    Calls Try.prog 57 #[.pointer (some ⟨g, 0, none⟩), .agg #[.int .i64 xk, .slice iA iN iC, .slice kA kN kC, .int .i64 xf, .int .i64 xc, .bool xh]] w (ObjPost w w0.heap.size g tA oA bA tc oc bc s (numO s b ⟨xk, its, ks, xf, xc, xh⟩) va vb) := by
  have hE : Aside0 (numO s b ⟨xk, its, ks, xf, xc, xh⟩ = (⟨xk, (mapS (numV s) b its).1, ks, xf, xc, xh⟩, (mapS (numV s) b its).2)) := ⟨by unfold numO; rw [if_pos hk]⟩
  have hk7 : (xk == 7) = false := by simpa using hk
  clear hk
  have hiA := Aside0.mk hi
  have hkA := Aside0.mk hkk
  have hVA := Aside0.mk hV
  have hBA := Aside0.mk h
  have h0A := Aside0.mk h0
  have hnA := Aside0.mk hnn
  have hmA := Aside0.mk hkn
  have hoA := Aside0.mk hok
  have hliA := Aside0.mk hln
  have hlkA := Aside0.mk hlk
  clear hi hkk hV h h0 hnn hkn hok
  go_enter Try.func57, Try.ntmps57
  go_upto_region 2 with (fail)
  (try simp only [Act.put, List.setIfInBounds_toArray, List.set_cons_zero, List.set_cons_succ])
  generalize hW : World.alloc (World.alloc (World.alloc w _) _) _ = W0
  have B1 : Aside0 (W0.heap[w.heap.size]? = some (.cells #[.int .i64 xk, .slice iA iN iC, .slice kA kN kC, .int .i64 xf, .int .i64 xc, .bool xh] 59)) := ⟨by rw [← hW]; exact (((Chg.refl (fun _ => False) (w.alloc _)).alloc _).alloc _).blk (heap_alloc_new w _) (fun e => e)⟩
  have B2 : Aside0 (W0.heap[w.heap.size + 1]? = some (.cells #[.int .i64 0, .slice none 0 0, .slice none 0 0, .int .i64 0, .int .i64 0, .bool false] 59)) := ⟨by rw [← hW]; exact ((Chg.refl (fun _ => False) ((w.alloc _).alloc _)).alloc _).blk (heap_alloc2_new w _ _) (fun e => e)⟩
  have B3 : Aside0 (W0.heap[w.heap.size + 1 + 1]? = some (.cells #[.int .i64 xk, .slice iA iN iC, .slice kA kN kC, .int .i64 xf, .int .i64 xc, .bool xh] 59)) := ⟨by rw [← hW]; exact heap_al3 w _ _ _⟩
  have hz0 : Aside0 (Chg (fun _ => False) w W0) := ⟨by rw [← hW]; exact cg⟩
  clear hW
  have hgt := blk_lt B3.out
  have hB0 := Aside0.mk (hBA.out.new hz0.out)
  have h00 : Aside0 (Chg (fun _ => False) w0 W0) := ⟨h0A.out.trans hz0.out (fun _ _ h => h)⟩
  have p0 : W0.cell? ⟨w.heap.size, 0, none⟩ = some (.int .i64 xk) := blk_cell B1.out 0
  have p1 : W0.cell? ⟨w.heap.size, 1, none⟩ = some (.slice iA iN iC) := blk_cell B1.out 1
  go_upto_region 4 with ((go_at_call 56; go_must (refine (book_values w0 W0 g tA oA bA tc oc bc s b vt vo va vb ros rbs L iA iN iC its h00.out hB0.out hoA.out hVA.out hn hno hiA.out hnA.out hliA.out).mono ?_); go_must (rintro e w1 ⟨vt3, vo3, ⟨vA, vN, vC⟩, rfl, hB1, hT1, hO1⟩); go_must (replace hB1 := Aside0.mk hB1); go_must (replace hT1 := Aside0.mk hT1); go_must (replace hO1 := Aside0.mk hO1); go_must (simp only [svl]); go_must (have fx := blk_frozen (hT1.out.blk B3.out (by decide)) 1); go_must (have cx := blk_cell (hT1.out.blk B3.out (by decide)) 1)))
  (try simp only [Act.put, List.setIfInBounds_toArray, List.set_cons_zero, List.set_cons_succ])
  have hs2 : Chg (fun j => j = w.heap.size + 1 + 1) w1 (w1.setCell ⟨w.heap.size + 1 + 1, 1, none⟩ (.slice vA vN vC)) := (Chg.refl (fun j => j = w.heap.size + 1 + 1) w1).setCell (p := ⟨w.heap.size + 1 + 1, 1, none⟩) (fun _ => rfl) _
  have B13 := Aside0.mk (blk_set (hT1.out.blk B3.out (by decide)) 1 (.slice vA vN vC))
  have B11 := Aside0.mk (hs2.blk (hT1.out.blk B1.out (by decide)) (fun h => by omega))
  have B12 := Aside0.mk (hs2.blk (hT1.out.blk B2.out (by decide)) (fun h => by omega))
  have hft : ∀ j cs t, j = w.heap.size + 1 + 1 → w1.heap[j]? = some (.cells cs t (0, 0)) → t = 59 := fun j cs t hj hc => cells_t (hT1.out.blk B3.out (by decide)) (hj ▸ hc)
  have hB3 := Aside0.mk (hB1.out.hit hs2 (fun j cs t hj hc => by rw [hft j cs t hj hc]; decide))
  clear hft
  have hO3 := Aside0.mk (hO1.out.chg hs2 (fun j h1 h2 => ow_blk_ne hO1.out (h2 ▸ (hT1.out.blk B3.out (by decide))) (by decide) h1))
  have hT3 : Aside0 (Turn w _ w0.heap.size [3, 114]) := ⟨(Turn.new_then hz0.out hT1.out).then_own hs2 (fun j hj => by rw [hj]; omega)⟩
  have h01 : Aside0 (Chg (fun _ => False) w0 (w1.setCell ⟨w.heap.size + 1 + 1, 1, none⟩ (.slice vA vN vC))) := ⟨hT3.out.chg h0A.out⟩
  generalize hW3 : World.setCell w1 _ _ = W3 at hs2 B13 B11 B12 hB3 hO3 hT3 h01 ⊢
  clear hW3 p0 p1 fx cx
  simp only [List.setIfInBounds_toArray, List.set_cons_zero, List.set_cons_succ] at B13
  have p2 : W3.cell? ⟨w.heap.size, 2, none⟩ = some (.slice kA kN kC) := blk_cell B11.out 2
  go_upto_region 5 with ((go_at_call 67; go_must (refine (ref_CopyLongs _ kA kN kC ks (Kd.C_below hkA.out (h01.out.below (fun _ _ h => h))) hlkA.out).mono ?_); go_must (rintro e w2 ⟨v2, rfl, hr2, hc2⟩); go_must (obtain ⟨qA, qN, qC, rfl⟩ := R_sl hr2); go_must (replace hr2 := Aside0.mk hr2); go_must (replace hc2 := Aside0.mk hc2); go_must (have fx := blk_frozen (hc2.out.blk B13.out (fun h => h)) 2); go_must (have cx := blk_cell (hc2.out.blk B13.out (fun h => h)) 2)))
  (try simp only [Act.put, List.setIfInBounds_toArray, List.set_cons_zero, List.set_cons_succ])
  have hs5 : Chg (fun j => j = w.heap.size + 1 + 1) w2 (w2.setCell ⟨w.heap.size + 1 + 1, 2, none⟩ (.slice qA qN qC)) := (Chg.refl (fun j => j = w.heap.size + 1 + 1) w2).setCell (p := ⟨w.heap.size + 1 + 1, 2, none⟩) (fun _ => rfl) _
  have hq := blk_set (hc2.out.blk B13.out (fun h => h)) 2 (.slice qA qN qC)
  have hr := hs5.blk (hc2.out.blk B12.out (fun h => h)) (fun h => by omega)
  have hft : ∀ j cs t, j = w.heap.size + 1 + 1 → w2.heap[j]? = some (.cells cs t (0, 0)) → t = 59 := fun j cs t hj hc => cells_t (hc2.out.blk B13.out (fun h => h)) (hj ▸ hc)
  have hB5 := Aside0.mk ((hB3.out.new hc2.out).hit hs5 (fun j cs t hj hc => by rw [hft j cs t hj hc]; decide))
  have hI5 := hO3.out.chg hc2.out (fun _ _ h => h)
  have hw3 : w.heap.size ≤ W3.heap.size := hT3.out.size
  have hK5 := Ow.of_new (v := (qA, qN, qC)) (lo := w.heap.size) rfl hr2.out hw3
  have hI6 := hI5.chg hs5 (fun j h1 h2 => ow_blk_ne hI5 (h2 ▸ (hc2.out.blk B13.out (fun h => h))) (by decide) h1)
  have hK6 := hK5.chg hs5 (fun j h1 h2 => ow_blk_ne hK5 (h2 ▸ (hc2.out.blk B13.out (fun h => h))) (by decide) h1)
  have hT5 : Aside0 (Turn w _ w0.heap.size [3, 114]) := ⟨(hT3.out.then_new hc2.out).then_own hs5 (fun j hj => by rw [hj]; omega)⟩
  generalize hW5 : World.setCell w2 _ _ = W5 at hs5 hq hr hB5 hI6 hK6 hT5 ⊢
  clear hW5 p2 fx cx hft hI5 hK5 hs5
  simp only [List.setIfInBounds_toArray, List.set_cons_zero, List.set_cons_succ] at hq
  replace hI6 := Ow.mono hI6 (by have := hz0.out.size; omega)
  have x0 : W5.cell? ⟨w.heap.size + 1 + 1, 0, none⟩ = some (.int .i64 xk) := blk_cell hq 0
  have x1 : W5.cell? ⟨w.heap.size + 1 + 1, 1, none⟩ = some (.slice vA vN vC) := blk_cell hq 1
  have x2 : W5.cell? ⟨w.heap.size + 1 + 1, 2, none⟩ = some (.slice qA qN qC) := blk_cell hq 2
  have x3 : W5.cell? ⟨w.heap.size + 1 + 1, 3, none⟩ = some (.int .i64 xf) := blk_cell hq 3
  have x4 : W5.cell? ⟨w.heap.size + 1 + 1, 4, none⟩ = some (.int .i64 xc) := blk_cell hq 4
  have x5 : W5.cell? ⟨w.heap.size + 1 + 1, 5, none⟩ = some (.bool xh) := blk_cell hq 5
  have y0 : W5.cell? ⟨w.heap.size + 1, 0, none⟩ = some (.int .i64 0) := blk_cell hr 0
  have y1 : W5.cell? ⟨w.heap.size + 1, 1, none⟩ = some (.slice none 0 0) := blk_cell hr 1
  have y2 : W5.cell? ⟨w.heap.size + 1, 2, none⟩ = some (.slice none 0 0) := blk_cell hr 2
  have y3 : W5.cell? ⟨w.heap.size + 1, 3, none⟩ = some (.int .i64 0) := blk_cell hr 3
  have y4 : W5.cell? ⟨w.heap.size + 1, 4, none⟩ = some (.int .i64 0) := blk_cell hr 4
  have y5 : W5.cell? ⟨w.heap.size + 1, 5, none⟩ = some (.bool false) := blk_cell hr 5
  have f0 : W5.frozen? ⟨w.heap.size + 1, 0, none⟩ = false := blk_frozen hr 0
  have f1 : W5.frozen? ⟨w.heap.size + 1, 1, none⟩ = false := blk_frozen hr 1
  have f2 : W5.frozen? ⟨w.heap.size + 1, 2, none⟩ = false := blk_frozen hr 2
  have f3 : W5.frozen? ⟨w.heap.size + 1, 3, none⟩ = false := blk_frozen hr 3
  have f4 : W5.frozen? ⟨w.heap.size + 1, 4, none⟩ = false := blk_frozen hr 4
  have f5 : W5.frozen? ⟨w.heap.size + 1, 5, none⟩ = false := blk_frozen hr 5
  have bf := (blk_set (blk_set (blk_set (blk_set (blk_set (blk_set hr 0 (.int .i64 xk)) 1 (.slice vA vN vC)) 2 (.slice qA qN qC)) 3 (.int .i64 xf)) 4 (.int .i64 xc)) 5 (.bool xh))
  have hs4 : Chg (fun j => j = w.heap.size + 1) W5 ((((((W5.setCell ⟨w.heap.size + 1, 0, none⟩ (.int .i64 xk)).setCell ⟨w.heap.size + 1, 1, none⟩ (.slice vA vN vC)).setCell ⟨w.heap.size + 1, 2, none⟩ (.slice qA qN qC)).setCell ⟨w.heap.size + 1, 3, none⟩ (.int .i64 xf)).setCell ⟨w.heap.size + 1, 4, none⟩ (.int .i64 xc)).setCell ⟨w.heap.size + 1, 5, none⟩ (.bool xh)) := (((((((Chg.refl (fun j => j = w.heap.size + 1) W5).setCell (p := ⟨w.heap.size + 1, 0, none⟩) (fun _ => rfl) _).setCell (p := ⟨w.heap.size + 1, 1, none⟩) (fun _ => rfl) _).setCell (p := ⟨w.heap.size + 1, 2, none⟩) (fun _ => rfl) _).setCell (p := ⟨w.heap.size + 1, 3, none⟩) (fun _ => rfl) _).setCell (p := ⟨w.heap.size + 1, 4, none⟩) (fun _ => rfl) _).setCell (p := ⟨w.heap.size + 1, 5, none⟩) (fun _ => rfl) _)
  have hft : ∀ j cs t, j = w.heap.size + 1 → W5.heap[j]? = some (.cells cs t (0, 0)) → t = 59 := fun j cs t hj hc => cells_t hr (hj ▸ hc)
  have hBf : Aside0 (BkR _ w0.heap.size g tA oA bA tc oc bc s _ vt3 vo3 va vb) := ⟨hB5.out.hit hs4 (fun j cs t hj hc => by rw [hft j cs t hj hc]; decide)⟩
  have hTf : Aside0 (Turn w _ w0.heap.size [3, 114]) := ⟨hT5.out.then_own hs4 (fun j hj => by rw [hj]; omega)⟩
  have hif := Aside0.mk (hI6.chg hs4 (fun j h1 h2 => ow_blk_ne hI6 (h2 ▸ hr) (by decide) h1))
  have hkf := Aside0.mk (hK6.chg hs4 (fun j h1 h2 => ow_blk_ne hK6 (h2 ▸ hr) (by decide) h1))
  clear hft hs4
  go_wp2
  refine bodyPost_ret (results_cell_row rfl _ _ _ _ _ _ _ rfl bf Try.underlying59 rfl (by kernel_rfl)) rfl ?_
  refine ⟨vt3, vo3, (vA, vN, vC), (qA, qN, qC), ?_, ?_, hTf.out, ?_, ?_⟩
  · first | (rw [hE.out]; done) | (rw [hE.out]; rfl) | (rw [hE.out]; simp)
  · rw [hE.out]; exact hBf.out
  · rw [hE.out]; exact hif.out
  · rw [hE.out]; exact hkf.out
theorem infoI8 : (Try.prog.info? 2).map (fun i => (i.zero, i.size, i.bytes)) = some (some (.int .i64 0), 1, 8) := by kernel_rfl
theorem chg_set (w : World) (g i : Nat) (u : Value) : Chg (fun j => j = g) w (w.setCell ⟨g, i, none⟩ u) := (Chg.refl (fun j => j = g) w).setCell (p := ⟨g, i, none⟩) (fun _ => rfl) _
theorem ow_set {α : Type} {kd : Kd α} {e t : TypeId} {w : World} {lo g i : Nat} {v : SV} {xs : List α} {cs : Array Value} {u : Value} (h : Ow kd e w lo v xs) (hg : w.heap[g]? = some (.cells cs t (0, 0))) (hd : e ≠ t) : Ow kd e (w.setCell ⟨g, i, none⟩ u) lo v xs :=
  h.chg (chg_set w g i u) (fun j h1 h2 => ow_blk_ne h (h2 ▸ hg) hd h1)
theorem BkR.set {w : World} {lo g g' i : Nat} {tA oA bA : Option Addr} {tc oc bc : Nat} {s : QS} {b : Bk} {vt vo va vb : SV} {t : TypeId} {cs : Array Value} {u : Value} (h : BkR w lo g tA oA bA tc oc bc s b vt vo va vb) (hg : w.heap[g']? = some (.cells cs t (0, 0))) (hd : t ∉ [3, 114]) : BkR (w.setCell ⟨g', i, none⟩ u) lo g tA oA bA tc oc bc s b vt vo va vb :=
  h.hit (chg_set w g' i u) (fun j cs' t' hj hc => by
    have := cells_t hg (hj ▸ hc)
    rw [this]; exact hd)
theorem Turn.set {w0 w : World} {lo g i : Nat} {ts : List TypeId} {u : Value} (h : Turn w0 w lo ts) (hg : w0.heap.size ≤ g) : Turn w0 (w.setCell ⟨g, i, none⟩ u) lo ts := h.then_own (chg_set w g i u) (fun j hj => by rw [hj]; exact hg)
theorem blk_setne {w : World} {g j i : Nat} {o : Obj} {u : Value} (h : w.heap[j]? = some o) (hne : j ≠ g) : (w.setCell ⟨g, i, none⟩ u).heap[j]? = some o := (chg_set w g i u).blk h hne
def ObjRel (w0 w : World) (g : Nat) (tA oA bA : Option Addr) (tc oc bc : Nat) (s : QS) (b : Bk) (va vb : SV) (iA kA : Option Addr) (iC kC : Nat) (xk xf xc : Int) (xh : Bool) (its : List QV) (ks : List Int) (i : Value) (wr : World) : Prop := ∃ (k : Nat) (vA qA : Option Addr) (vN vC qN qC : Nat) (vt2 vo2 : SV), i = .int .i64 k ∧ k ≤ max ks.length its.length ∧ Aside0 (wr.heap[w.heap.size]? = some (.cells #[.int .i64 xk, .slice iA its.length iC, .slice kA ks.length kC, .int .i64 xf, .int .i64 xc, .bool xh] 59)) ∧ Aside0 (wr.heap[w.heap.size + 1]? = some (.cells #[.int .i64 0, .slice none 0 0, .slice none 0 0, .int .i64 0, .int .i64 0, .bool false] 59)) ∧ Aside0 (wr.heap[w.heap.size + 1 + 1]? = some (.cells #[.int .i64 xk, .slice vA vN vC, .slice qA qN qC, .int .i64 xf, .int .i64 xc, .bool xh] 59)) ∧ Aside0 (Ow kQV 56 wr w.heap.size (vA, vN, vC) (fieldsS s b ks its k).1.2) ∧ Aside0 (Ow (Kd.int .i64) 2 wr w.heap.size (qA, qN, qC) (fieldsS s b ks its k).1.1) ∧ Aside0 (BkR wr w0.heap.size g tA oA bA tc oc bc s (fieldsS s b ks its k).2 vt2 vo2 va vb) ∧ Aside0 (Turn w wr w0.heap.size [3, 114])
set_option maxHeartbeats 4000000
theorem book_objectR (w0 w : World) (g : Nat) (tA oA bA : Option Addr) (tc oc bc : Nat) (s : QS) (b : Bk) (vt vo va vb : SV) (ros : List RO) (rbs : List RB) (L : List (List RF)) (iA kA : Option Addr) (iN iC kN kC : Nat) (xf xc : Int) (xh : Bool) (its : List QV) (ks : List Int) (h0 : Chg (fun _ => False) w0 w) (h : BkR w w0.heap.size g tA oA bA tc oc bc s b vt vo va vb) (hok : BkOk s b) (hV : SView w0 tA oA bA s ros rbs L) (hn : s.texts.length ≤ 1048576) (hno : s.objs.length ≤ 1048576) (hi : Kd.C kQV w0 iA iN its) (hkk : Kd.C (Kd.int .i64) w0 kA kN ks) (hnn : ∀ v ∈ its, v.n ≤ 9223372036854775807) (hkn : ∀ v ∈ ks, v ≤ 9223372036854775807) (hln : its.length ≤ 1048576) (hlk : ks.length ≤ 1048576) :
    Calls Try.prog 57 #[.pointer (some ⟨g, 0, none⟩), .agg #[.int .i64 7, .slice iA iN iC, .slice kA kN kC, .int .i64 xf, .int .i64 xc, .bool xh]] w (ObjPost w w0.heap.size g tA oA bA tc oc bc s (numO s b ⟨7, its, ks, xf, xc, xh⟩) va vb) := by
  have hE : Aside0 (numO s b ⟨7, its, ks, xf, xc, xh⟩ = (⟨7, (fieldsS s b ks its (max ks.length its.length)).1.2, (fieldsS s b ks its (max ks.length its.length)).1.1, xf, xc, xh⟩, (fieldsS s b ks its (max ks.length its.length)).2)) := ⟨by unfold numO; rw [if_neg (fun h => h rfl)]⟩
  have e1 := hi.1
  have e2 := hkk.1
  subst e1 e2
  have hiA := Aside0.mk hi
  have hkA := Aside0.mk hkk
  have hVA := Aside0.mk hV
  have hBA := Aside0.mk h
  have h0A := Aside0.mk h0
  have hnA := Aside0.mk hnn
  have hmA := Aside0.mk hkn
  have hoA := Aside0.mk hok
  have hliA := Aside0.mk hln
  have hlkA := Aside0.mk hlk
  clear hi hkk hV h h0 hnn hkn hok
  go_enter Try.func57, Try.ntmps57
  go_upto_region 2 with (fail)
  (try simp only [Act.put, List.setIfInBounds_toArray, List.set_cons_zero, List.set_cons_succ])
  generalize hW : World.alloc (World.alloc (World.alloc w _) _) _ = W0
  have B1 : Aside0 (W0.heap[w.heap.size]? = some (.cells #[.int .i64 7, .slice iA its.length iC, .slice kA ks.length kC, .int .i64 xf, .int .i64 xc, .bool xh] 59)) := ⟨by rw [← hW]; exact (((Chg.refl (fun _ => False) (w.alloc _)).alloc _).alloc _).blk (heap_alloc_new w _) (fun e => e)⟩
  have B2 : Aside0 (W0.heap[w.heap.size + 1]? = some (.cells #[.int .i64 0, .slice none 0 0, .slice none 0 0, .int .i64 0, .int .i64 0, .bool false] 59)) := ⟨by rw [← hW]; exact ((Chg.refl (fun _ => False) ((w.alloc _).alloc _)).alloc _).blk (heap_alloc2_new w _ _) (fun e => e)⟩
  have B3 : Aside0 (W0.heap[w.heap.size + 1 + 1]? = some (.cells #[.int .i64 7, .slice iA its.length iC, .slice kA ks.length kC, .int .i64 xf, .int .i64 xc, .bool xh] 59)) := ⟨by rw [← hW]; exact heap_al3 w _ _ _⟩
  have hz0 : Aside0 (Chg (fun _ => False) w W0) := ⟨by rw [← hW]; exact cg⟩
  clear hW
  have hgt := blk_lt B3.out
  have hB0 := Aside0.mk (hBA.out.new hz0.out)
  have h00 : Aside0 (Chg (fun _ => False) w0 W0) := ⟨h0A.out.trans hz0.out (fun _ _ h => h)⟩
  have p0 : W0.cell? ⟨w.heap.size, 0, none⟩ = some (.int .i64 7) := blk_cell B1.out 0
  have x1 : W0.cell? ⟨w.heap.size + 1 + 1, 1, none⟩ = some (.slice iA its.length iC) := blk_cell B3.out 1
  have x2 : W0.cell? ⟨w.heap.size + 1 + 1, 2, none⟩ = some (.slice kA ks.length kC) := blk_cell B3.out 2
  have f1 := blk_frozen B3.out 1
  have f2 := blk_frozen B3.out 2
  go_upto_region 8 with (fail)
  (try simp only [Act.put, List.setIfInBounds_toArray, List.set_cons_zero, List.set_cons_succ])
  have hX0 := Aside0.mk (blk_set (blk_set B3.out 1 (.slice none 0 0)) 2 (.slice none 0 0))
  have hP0 := Aside0.mk (blk_setne (g := w.heap.size + 1 + 1) (i := 2) (u := .slice none 0 0) (blk_setne (g := w.heap.size + 1 + 1) (i := 1) (u := .slice none 0 0) B1.out (by omega)) (by omega))
  have hR0 := Aside0.mk (blk_setne (g := w.heap.size + 1 + 1) (i := 2) (u := .slice none 0 0) (blk_setne (g := w.heap.size + 1 + 1) (i := 1) (u := .slice none 0 0) B2.out (by omega)) (by omega))
  have hB0' := Aside0.mk ((hB0.out.set (i := 1) (u := .slice none 0 0) B3.out (by decide)).set (i := 2) (u := .slice none 0 0) (blk_set B3.out 1 (.slice none 0 0)) (by decide))
  have hT0 : Aside0 (Turn w _ w0.heap.size [3, 114]) := ⟨((Turn.of_new hz0.out).set (g := w.heap.size + 1 + 1) (i := 1) (u := .slice none 0 0) (by omega)).set (g := w.heap.size + 1 + 1) (i := 2) (u := .slice none 0 0) (by omega)⟩
  generalize hW : World.setCell (World.setCell W0 _ _) _ _ = W1 at hX0 hP0 hR0 hB0' hT0 ⊢
  clear hW p0 x1 x2 f1 f2 B1 B2 B3
  simp only [List.setIfInBounds_toArray, List.set_cons_zero, List.set_cons_succ] at hX0
  go_wp2
  go_loopw [6] (fun i wr => ObjRel w0 w g tA oA bA tc oc bc s b va vb iA kA iC kC 7 xf xc xh its ks i wr) (fun i _ => max ks.length its.length - (intOf i).toNat)
  case atStart => exact ⟨0, none, none, 0, 0, 0, 0, vt, vo, rfl, by omega, hP0, hR0, hX0, ⟨Ow.nil _ _ _ _⟩, ⟨Ow.nil _ _ _ _⟩, hB0', hT0⟩
  case round =>
    clear hX0 hP0 hR0 hB0' hT0 hB0 h00
    obtain ⟨k, vA, qA, vN, vC, qN, qC, vt2, vo2, rfl, hk, hP, hR, hX, hO, hQ, hB, hT⟩ := hrel
    have p1 : wr.cell? ⟨w.heap.size, 1, none⟩ = some (.slice iA its.length iC) := blk_cell hP.out 1
    have p2 : wr.cell? ⟨w.heap.size, 2, none⟩ = some (.slice kA ks.length kC) := blk_cell hP.out 2
    have hF : Aside0 (fieldsS s b ks its (k + 1) = fieldS s ks its (fieldsS s b ks its k) k) := ⟨fieldsS_succ _ _ _ _ _⟩
    have hBok : Aside0 (BkOk s (fieldsS s b ks its k).2) := ⟨fieldsS_ok hoA.out k⟩
    have hcnt : Aside0 ((fieldsS s b ks its k).1.1.length ≤ k ∧ (fieldsS s b ks its k).1.2.length ≤ k) := ⟨fieldsS_len s b ks its k⟩
    have hk0 : (0 : Int) ≤ k := by omega
    have hli : Aside0 (((fieldsS s b ks its k).1.2.length + 1) * 16 ≤ 140737488355328) := ⟨by have := hcnt.out.2; have := hliA.out; have := hlkA.out; omega⟩
    have hlk : Aside0 (((fieldsS s b ks its k).1.1.length + 1) * 8 ≤ 140737488355328) := ⟨by have := hcnt.out.1; have := hliA.out; have := hlkA.out; omega⟩
    by_cases hk1 : k < ks.length
    · have h0w : Aside0 (Chg (fun _ => False) w0 wr) := ⟨hT.out.chg h0A.out⟩
      obtain ⟨ad, key, e1, e2, x0⟩ := i64_at (C_chg hkA.out (h0w.out.below (fun _ _ h => h))) k hk1
      subst e1
      have hkey : Aside0 (key ≤ 9223372036854775807) := ⟨hmA.out _ (List.mem_of_getElem? e2)⟩
      have hk11 : (k : Int) < ks.length := by omega
      generalize fieldsS s b ks its k = a at hF hBok hO hQ hB hli hlk
      obtain ⟨⟨xs, ys⟩, B⟩ := a
      simp only [fieldS, e2] at hF
      simp only at hBok hO hQ hB hli hlk
      have hBok2 : Aside0 (BkOk s (numT s B key).2) := ⟨numT_ok hBok.out⟩
      clear e2 h0w
      by_cases hk2 : k < its.length
      · go_upto_region 14 with (first | (go_at_call 86; go_must (refine (book_text wr w0.heap.size g tA oA bA tc oc bc s B vt2 vo2 va vb key hB.out hBok.out hn hkey.out).mono ?_); go_must (rintro e w1 ⟨vt3, rfl, hB1, hT1⟩); go_must (replace hB1 := Aside0.mk hB1); go_must (replace hT1 := Aside0.mk hT1); go_must (have hX1 := Aside0.mk (hT1.out.blk hX.out (by decide))); go_must (have cx : w1.cell? ⟨w.heap.size + 1 + 1, 2, none⟩ = some (.slice qA qN qC) := blk_cell hX1.out 2); go_must (have hQ1 := Aside0.mk (hQ.out.turn hT1.out (by decide))); go_must (have hRd := own_new0 hQ1.out.1); go_must (have hCd : Aside0 (Chg (fun b => (svl (qA, qN, qC)).ownBlock = some b) w1 w1) := ⟨Chg.refl _ _⟩)) | (at_builtin; go_must (refine app1 (Kd.int .i64) rfl (.tmp 52) (.tmp 54) rfl Try.underlying57 infoI8 rfl (by decide) (by decide) (numT s B key).1 rfl rfl rfl hRd hCd hlk ?_); go_must (intro v1 w2 hr2 hc2); go_must (obtain ⟨zA, zN, zC, rfl⟩ := R_sl hr2.out); go_must (have hX2 := Aside0.mk (hc2.out.blk hX1.out (fun e => ow_blk_ne hQ1.out hX1.out (by decide) e))); go_must (have cx2 := blk_cell hX2.out 2); go_must (have fx2 := blk_frozen hX2.out 2)))
        (try simp only [Act.put, List.setIfInBounds_toArray, List.set_cons_zero, List.set_cons_succ])
        have hlo1 : w.heap.size ≤ w1.heap.size := Nat.le_trans hT.out.size hT1.out.size
        have hQ2 := Ow.app (v1 := (zA, zN, zC)) rfl hQ1.out hr2.out hlo1
        have hO2 := (hO.out.turn hT1.out (by decide)).chg hc2.out (fun j h1 h2 => Ow.ne (hO.out.turn hT1.out (by decide)) hQ1.out (by decide) j h1 h2)
        have hB2 := hB1.out.hit hc2.out (fun j cs t hj hc => by rw [own_type hQ1.out hj hc]; decide)
        have hP2 := hc2.out.blk (hT1.out.blk hP.out (by decide)) (fun e => ow_blk_ne hQ1.out (hT1.out.blk hP.out (by decide)) (by decide) e)
        have hR2 := hc2.out.blk (hT1.out.blk hR.out (by decide)) (fun e => ow_blk_ne hQ1.out (hT1.out.blk hR.out (by decide)) (by decide) e)
        have hT2 := (hT.out.trans hT1.out).then_own hc2.out (fun j hj => hQ1.out.2 j hj)
        replace hB2 := hB2.set (i := 2) (u := .slice zA zN zC) hX2.out (by decide)
        replace hQ2 := ow_set (i := 2) (u := .slice zA zN zC) hQ2 hX2.out (by decide)
        replace hO2 := ow_set (i := 2) (u := .slice zA zN zC) hO2 hX2.out (by decide)
        replace hP2 := blk_setne (g := w.heap.size + 1 + 1) (i := 2) (u := .slice zA zN zC) hP2 (by omega)
        replace hR2 := blk_setne (g := w.heap.size + 1 + 1) (i := 2) (u := .slice zA zN zC) hR2 (by omega)
        replace hT2 := hT2.set (g := w.heap.size + 1 + 1) (i := 2) (u := .slice zA zN zC) (by omega)
        have hX3 := blk_set hX2.out 2 (.slice zA zN zC)
        generalize hW : World.setCell w2 _ _ = W at hB2 hQ2 hO2 hP2 hR2 hT2 hX3 ⊢
        simp only [List.setIfInBounds_toArray, List.set_cons_zero, List.set_cons_succ] at hX3
        clear hW hX1 cx hRd hCd hX2 cx2 fx2 hr2 hc2 hB1 hT1 hQ1 hX hO hQ hB hT hP hR p1 p2 x0
        have hX := Aside0.mk hX3
        have hO := Aside0.mk hO2
        have hQ := Aside0.mk hQ2
        have hB := Aside0.mk hB2
        have hT := Aside0.mk hT2
        have hP := Aside0.mk hP2
        have hR := Aside0.mk hR2
        clear hX3 hO2 hQ2 hB2 hT2 hP2 hR2
        have p1 : W.cell? ⟨w.heap.size, 1, none⟩ = some (.slice iA its.length iC) := blk_cell hP.out 1
        have h0w : Aside0 (Chg (fun _ => False) w0 W) := ⟨hT.out.chg h0A.out⟩
        obtain ⟨bd, yk, yn, e3, e4, y0, y1⟩ := kQV_at (C_chg hiA.out (h0w.out.below (fun _ _ h => h))) k hk2
        subst e3
        have hyn : Aside0 ((⟨yk, yn⟩ : QV).n ≤ 9223372036854775807) := ⟨hnA.out _ (List.mem_of_getElem? e4)⟩
        have hitm := Aside0.mk e4
        clear e4
        have hk21 : (k : Int) < its.length := by omega
        go_wp2_with (first | (go_at_call 85; go_must (refine (book_value W w0.heap.size g tA oA bA tc oc bc s (numT s B key).2 vt3 vo2 va vb ros rbs L ⟨yk, yn⟩ hB.out hBok2.out (hVA.out.below (h0w.out.below (fun _ _ h => h))) hn hno hyn.out).mono ?_); go_must (rintro e w5 ⟨vt5, vo5, rfl, hB5, hT5⟩); go_must (replace hB5 := Aside0.mk hB5); go_must (replace hT5 := Aside0.mk hT5); go_must (have hz5 : Aside0 (Chg (fun _ => False) w5 (w5.alloc (.cells #[.int .i64 (numV s (numT s B key).2 ⟨yk, yn⟩).1.kind, .int .i64 (numV s (numT s B key).2 ⟨yk, yn⟩).1.n] 56 (0, 0)))) := ⟨(Chg.refl (fun _ => False) w5).alloc _⟩); go_must (have hO5 := Aside0.mk ((hO.out.turn hT5.out (by decide)).chg hz5.out (fun _ _ h => h))); go_must (have hRd := own_new0 hO5.out.1); go_must (have hCd : Aside0 (Chg (fun b => (svl (vA, vN, vC)).ownBlock = some b) (w5.alloc (.cells #[.int .i64 (numV s (numT s B key).2 ⟨yk, yn⟩).1.kind, .int .i64 (numV s (numT s B key).2 ⟨yk, yn⟩).1.n] 56 (0, 0))) (w5.alloc (.cells #[.int .i64 (numV s (numT s B key).2 ⟨yk, yn⟩).1.kind, .int .i64 (numV s (numT s B key).2 ⟨yk, yn⟩).1.n] 56 (0, 0)))) := ⟨Chg.refl _ _⟩); go_must (have hX5 := Aside0.mk (hz5.out.blk (hT5.out.blk hX.out (by decide)) (fun h => h))); go_must (have cx5 := blk_cell hX5.out 1)) | (at_builtin; go_must (refine app1H kQV rfl (.tmp 70) (.tmp 72) rfl Try.underlying52 infoQV rfl (by decide) (by decide) (numV s (numT s B key).2 ⟨yk, yn⟩).1 rfl rfl (by simp) (kQV_M _ _ _ _) hRd hCd hli ?_); go_must (intro v1 w6 hr6 hc6); go_must (obtain ⟨uA, uN, uC, rfl⟩ := R_sl hr6.out); go_must (have hX6 := Aside0.mk (hc6.out.blk hX5.out (fun e => ow_blk_ne hO5.out hX5.out (by decide) e))); go_must (have cx6 := blk_cell hX6.out 1); go_must (have fx6 := blk_frozen hX6.out 1)))
        go_roundw
        case measure => first | (simp [intOf]; done) | (simp [intOf]; omega)
        case rel =>
          have hlo5 : w.heap.size ≤ w5.heap.size := Nat.le_trans hT.out.size hT5.out.size
          have hlo6 := hz5.out.size
          have hO6 := Ow.app (v1 := (uA, uN, uC)) rfl hO5.out hr6.out (Nat.le_trans hlo5 hlo6)
          have hQ5 := (hQ.out.turn hT5.out (by decide)).chg hz5.out (fun _ _ h => h)
          have hQ6 := hQ5.chg hc6.out (fun j h1 h2 => Ow.ne hQ5 hO5.out (by decide) j h1 h2)
          have hB6 := (hB5.out.new hz5.out).hit hc6.out (fun j cs t hj hc => by rw [own_type hO5.out hj hc]; decide)
          have hP5 := hz5.out.blk (hT5.out.blk hP.out (by decide)) (fun h => h)
          have hP6 := hc6.out.blk hP5 (fun e => ow_blk_ne hO5.out hP5 (by decide) e)
          have hR5 := hz5.out.blk (hT5.out.blk hR.out (by decide)) (fun h => h)
          have hR6 := hc6.out.blk hR5 (fun e => ow_blk_ne hO5.out hR5 (by decide) e)
          have hT6 := ((hT.out.trans hT5.out).then_new hz5.out).then_own hc6.out (fun j hj => hO5.out.2 j hj)
          refine ⟨k + 1, uA, zA, uN, uC, zN, zC, vt5, vo5, by go_num, by omega, ⟨blk_setne hP6 (by omega)⟩, ⟨blk_setne hR6 (by omega)⟩, ⟨?_⟩, ⟨?_⟩, ⟨?_⟩, ⟨?_⟩, ⟨hT6.set (by omega)⟩⟩
          · exact blk_set hX6.out 1 (.slice uA uN uC)
          · rw [hF.out, hitm.out]; exact ow_set hO6 hX6.out (by decide)
          · rw [hF.out, hitm.out]; exact ow_set hQ6 hX6.out (by decide)
          · rw [hF.out, hitm.out]; exact hB6.set hX6.out (by decide)
      · go_upto_region 14 with (first | (go_at_call 86; go_must (refine (book_text wr w0.heap.size g tA oA bA tc oc bc s B vt2 vo2 va vb key hB.out hBok.out hn hkey.out).mono ?_); go_must (rintro e w1 ⟨vt3, rfl, hB1, hT1⟩); go_must (replace hB1 := Aside0.mk hB1); go_must (replace hT1 := Aside0.mk hT1); go_must (have hX1 := Aside0.mk (hT1.out.blk hX.out (by decide))); go_must (have cx : w1.cell? ⟨w.heap.size + 1 + 1, 2, none⟩ = some (.slice qA qN qC) := blk_cell hX1.out 2); go_must (have hQ1 := Aside0.mk (hQ.out.turn hT1.out (by decide))); go_must (have hRd := own_new0 hQ1.out.1); go_must (have hCd : Aside0 (Chg (fun b => (svl (qA, qN, qC)).ownBlock = some b) w1 w1) := ⟨Chg.refl _ _⟩)) | (at_builtin; go_must (refine app1 (Kd.int .i64) rfl (.tmp 52) (.tmp 54) rfl Try.underlying57 infoI8 rfl (by decide) (by decide) (numT s B key).1 rfl rfl rfl hRd hCd hlk ?_); go_must (intro v1 w2 hr2 hc2); go_must (obtain ⟨zA, zN, zC, rfl⟩ := R_sl hr2.out); go_must (have hX2 := Aside0.mk (hc2.out.blk hX1.out (fun e => ow_blk_ne hQ1.out hX1.out (by decide) e))); go_must (have cx2 := blk_cell hX2.out 2); go_must (have fx2 := blk_frozen hX2.out 2)))
        (try simp only [Act.put, List.setIfInBounds_toArray, List.set_cons_zero, List.set_cons_succ])
        have hlo1 : w.heap.size ≤ w1.heap.size := Nat.le_trans hT.out.size hT1.out.size
        have hQ2 := Ow.app (v1 := (zA, zN, zC)) rfl hQ1.out hr2.out hlo1
        have hO2 := (hO.out.turn hT1.out (by decide)).chg hc2.out (fun j h1 h2 => Ow.ne (hO.out.turn hT1.out (by decide)) hQ1.out (by decide) j h1 h2)
        have hB2 := hB1.out.hit hc2.out (fun j cs t hj hc => by rw [own_type hQ1.out hj hc]; decide)
        have hP2 := hc2.out.blk (hT1.out.blk hP.out (by decide)) (fun e => ow_blk_ne hQ1.out (hT1.out.blk hP.out (by decide)) (by decide) e)
        have hR2 := hc2.out.blk (hT1.out.blk hR.out (by decide)) (fun e => ow_blk_ne hQ1.out (hT1.out.blk hR.out (by decide)) (by decide) e)
        have hT2 := (hT.out.trans hT1.out).then_own hc2.out (fun j hj => hQ1.out.2 j hj)
        replace hB2 := hB2.set (i := 2) (u := .slice zA zN zC) hX2.out (by decide)
        replace hQ2 := ow_set (i := 2) (u := .slice zA zN zC) hQ2 hX2.out (by decide)
        replace hO2 := ow_set (i := 2) (u := .slice zA zN zC) hO2 hX2.out (by decide)
        replace hP2 := blk_setne (g := w.heap.size + 1 + 1) (i := 2) (u := .slice zA zN zC) hP2 (by omega)
        replace hR2 := blk_setne (g := w.heap.size + 1 + 1) (i := 2) (u := .slice zA zN zC) hR2 (by omega)
        replace hT2 := hT2.set (g := w.heap.size + 1 + 1) (i := 2) (u := .slice zA zN zC) (by omega)
        have hX3 := blk_set hX2.out 2 (.slice zA zN zC)
        generalize hW : World.setCell w2 _ _ = W at hB2 hQ2 hO2 hP2 hR2 hT2 hX3 ⊢
        simp only [List.setIfInBounds_toArray, List.set_cons_zero, List.set_cons_succ] at hX3
        clear hW hX1 cx hRd hCd hX2 cx2 fx2 hr2 hc2 hB1 hT1 hQ1 hX hO hQ hB hT hP hR p1 p2 x0
        have hX := Aside0.mk hX3
        have hO := Aside0.mk hO2
        have hQ := Aside0.mk hQ2
        have hB := Aside0.mk hB2
        have hT := Aside0.mk hT2
        have hP := Aside0.mk hP2
        have hR := Aside0.mk hR2
        clear hX3 hO2 hQ2 hB2 hT2 hP2 hR2
        have p1 : W.cell? ⟨w.heap.size, 1, none⟩ = some (.slice iA its.length iC) := blk_cell hP.out 1
        have hk21 : ¬ ((k : Int) < its.length) := by omega
        have hitm : Aside0 (its[k]? = none) := ⟨List.getElem?_eq_none (by omega)⟩
        go_wp2
        go_roundw
        case measure => first | (simp [intOf]; done) | (simp [intOf]; omega)
        case rel =>
          refine ⟨k + 1, vA, zA, vN, vC, zN, zC, vt3, vo2, by go_num, by omega, hP, hR, hX, ⟨?_⟩, ⟨?_⟩, ⟨?_⟩, hT⟩
          · rw [hF.out, hitm.out]; exact hO.out
          · rw [hF.out, hitm.out]; exact hQ.out
          · rw [hF.out, hitm.out]; exact hB.out
    · by_cases hk2 : k < its.length
      · have hk11 : ¬ ((k : Int) < ks.length) := by omega
        have hke : ks[k]? = none := List.getElem?_eq_none (by omega)
        generalize fieldsS s b ks its k = a at hF hBok hO hQ hB hli hlk
        obtain ⟨⟨xs, ys⟩, B⟩ := a
        simp only [fieldS, hke] at hF
        simp only at hBok hO hQ hB hli hlk
        have hBok2 : Aside0 (BkOk s B) := hBok
        clear hke
        have h0w : Aside0 (Chg (fun _ => False) w0 wr) := ⟨hT.out.chg h0A.out⟩
        obtain ⟨bd, yk, yn, e3, e4, y0, y1⟩ := kQV_at (C_chg hiA.out (h0w.out.below (fun _ _ h => h))) k hk2
        subst e3
        have hyn : Aside0 ((⟨yk, yn⟩ : QV).n ≤ 9223372036854775807) := ⟨hnA.out _ (List.mem_of_getElem? e4)⟩
        have hitm := Aside0.mk e4
        clear e4
        have hk21 : (k : Int) < its.length := by omega
        go_wp2_with (first | (go_at_call 85; go_must (refine (book_value wr w0.heap.size g tA oA bA tc oc bc s B vt2 vo2 va vb ros rbs L ⟨yk, yn⟩ hB.out hBok2.out (hVA.out.below (h0w.out.below (fun _ _ h => h))) hn hno hyn.out).mono ?_); go_must (rintro e w5 ⟨vt5, vo5, rfl, hB5, hT5⟩); go_must (replace hB5 := Aside0.mk hB5); go_must (replace hT5 := Aside0.mk hT5); go_must (have hz5 : Aside0 (Chg (fun _ => False) w5 (w5.alloc (.cells #[.int .i64 (numV s B ⟨yk, yn⟩).1.kind, .int .i64 (numV s B ⟨yk, yn⟩).1.n] 56 (0, 0)))) := ⟨(Chg.refl (fun _ => False) w5).alloc _⟩); go_must (have hO5 := Aside0.mk ((hO.out.turn hT5.out (by decide)).chg hz5.out (fun _ _ h => h))); go_must (have hRd := own_new0 hO5.out.1); go_must (have hCd : Aside0 (Chg (fun b => (svl (vA, vN, vC)).ownBlock = some b) (w5.alloc (.cells #[.int .i64 (numV s B ⟨yk, yn⟩).1.kind, .int .i64 (numV s B ⟨yk, yn⟩).1.n] 56 (0, 0))) (w5.alloc (.cells #[.int .i64 (numV s B ⟨yk, yn⟩).1.kind, .int .i64 (numV s B ⟨yk, yn⟩).1.n] 56 (0, 0)))) := ⟨Chg.refl _ _⟩); go_must (have hX5 := Aside0.mk (hz5.out.blk (hT5.out.blk hX.out (by decide)) (fun h => h))); go_must (have cx5 := blk_cell hX5.out 1)) | (at_builtin; go_must (refine app1H kQV rfl (.tmp 70) (.tmp 72) rfl Try.underlying52 infoQV rfl (by decide) (by decide) (numV s B ⟨yk, yn⟩).1 rfl rfl (by simp) (kQV_M _ _ _ _) hRd hCd hli ?_); go_must (intro v1 w6 hr6 hc6); go_must (obtain ⟨uA, uN, uC, rfl⟩ := R_sl hr6.out); go_must (have hX6 := Aside0.mk (hc6.out.blk hX5.out (fun e => ow_blk_ne hO5.out hX5.out (by decide) e))); go_must (have cx6 := blk_cell hX6.out 1); go_must (have fx6 := blk_frozen hX6.out 1)))
        go_roundw
        case measure => first | (simp [intOf]; done) | (simp [intOf]; omega)
        case rel =>
          have hlo5 : w.heap.size ≤ w5.heap.size := Nat.le_trans hT.out.size hT5.out.size
          have hlo6 := hz5.out.size
          have hO6 := Ow.app (v1 := (uA, uN, uC)) rfl hO5.out hr6.out (Nat.le_trans hlo5 hlo6)
          have hQ5 := (hQ.out.turn hT5.out (by decide)).chg hz5.out (fun _ _ h => h)
          have hQ6 := hQ5.chg hc6.out (fun j h1 h2 => Ow.ne hQ5 hO5.out (by decide) j h1 h2)
          have hB6 := (hB5.out.new hz5.out).hit hc6.out (fun j cs t hj hc => by rw [own_type hO5.out hj hc]; decide)
          have hP5 := hz5.out.blk (hT5.out.blk hP.out (by decide)) (fun h => h)
          have hP6 := hc6.out.blk hP5 (fun e => ow_blk_ne hO5.out hP5 (by decide) e)
          have hR5 := hz5.out.blk (hT5.out.blk hR.out (by decide)) (fun h => h)
          have hR6 := hc6.out.blk hR5 (fun e => ow_blk_ne hO5.out hR5 (by decide) e)
          have hT6 := ((hT.out.trans hT5.out).then_new hz5.out).then_own hc6.out (fun j hj => hO5.out.2 j hj)
          refine ⟨k + 1, uA, qA, uN, uC, qN, qC, vt5, vo5, by go_num, by omega, ⟨blk_setne hP6 (by omega)⟩, ⟨blk_setne hR6 (by omega)⟩, ⟨?_⟩, ⟨?_⟩, ⟨?_⟩, ⟨?_⟩, ⟨hT6.set (by omega)⟩⟩
          · exact blk_set hX6.out 1 (.slice uA uN uC)
          · rw [hF.out, hitm.out]; exact ow_set hO6 hX6.out (by decide)
          · rw [hF.out, hitm.out]; exact ow_set hQ6 hX6.out (by decide)
          · rw [hF.out, hitm.out]; exact hB6.set hX6.out (by decide)
      · obtain rfl : k = max ks.length its.length := by omega
        have hk11 : ¬ (((max ks.length its.length : Nat) : Int) < ks.length) := by omega
        have hk21 : ¬ (((max ks.length its.length : Nat) : Int) < its.length) := by omega
        have hz1 := hz0.out.size
        clear hF hBok hcnt hli hlk
        go_upto_region 17 with (fail)
        (try simp only [Act.put, List.setIfInBounds_toArray, List.set_cons_zero, List.set_cons_succ])
        clear p1 p2
        have x0 : wr.cell? ⟨w.heap.size + 1 + 1, 0, none⟩ = some (.int .i64 7) := blk_cell hX.out 0
        have x1 : wr.cell? ⟨w.heap.size + 1 + 1, 1, none⟩ = some (.slice vA vN vC) := blk_cell hX.out 1
        have x2 : wr.cell? ⟨w.heap.size + 1 + 1, 2, none⟩ = some (.slice qA qN qC) := blk_cell hX.out 2
        have x3 : wr.cell? ⟨w.heap.size + 1 + 1, 3, none⟩ = some (.int .i64 xf) := blk_cell hX.out 3
        have x4 : wr.cell? ⟨w.heap.size + 1 + 1, 4, none⟩ = some (.int .i64 xc) := blk_cell hX.out 4
        have x5 : wr.cell? ⟨w.heap.size + 1 + 1, 5, none⟩ = some (.bool xh) := blk_cell hX.out 5
        have y0 : wr.cell? ⟨w.heap.size + 1, 0, none⟩ = some (.int .i64 0) := blk_cell hR.out 0
        have y1 : wr.cell? ⟨w.heap.size + 1, 1, none⟩ = some (.slice none 0 0) := blk_cell hR.out 1
        have y2 : wr.cell? ⟨w.heap.size + 1, 2, none⟩ = some (.slice none 0 0) := blk_cell hR.out 2
        have y3 : wr.cell? ⟨w.heap.size + 1, 3, none⟩ = some (.int .i64 0) := blk_cell hR.out 3
        have y4 : wr.cell? ⟨w.heap.size + 1, 4, none⟩ = some (.int .i64 0) := blk_cell hR.out 4
        have y5 : wr.cell? ⟨w.heap.size + 1, 5, none⟩ = some (.bool false) := blk_cell hR.out 5
        have f0 : wr.frozen? ⟨w.heap.size + 1, 0, none⟩ = false := blk_frozen hR.out 0
        have f1 : wr.frozen? ⟨w.heap.size + 1, 1, none⟩ = false := blk_frozen hR.out 1
        have f2 : wr.frozen? ⟨w.heap.size + 1, 2, none⟩ = false := blk_frozen hR.out 2
        have f3 : wr.frozen? ⟨w.heap.size + 1, 3, none⟩ = false := blk_frozen hR.out 3
        have f4 : wr.frozen? ⟨w.heap.size + 1, 4, none⟩ = false := blk_frozen hR.out 4
        have f5 : wr.frozen? ⟨w.heap.size + 1, 5, none⟩ = false := blk_frozen hR.out 5
        have bf := (blk_set (blk_set (blk_set (blk_set (blk_set (blk_set hR.out 0 (.int .i64 7)) 1 (.slice vA vN vC)) 2 (.slice qA qN qC)) 3 (.int .i64 xf)) 4 (.int .i64 xc)) 5 (.bool xh))
        have hs4 : Chg (fun j => j = w.heap.size + 1) wr ((((((wr.setCell ⟨w.heap.size + 1, 0, none⟩ (.int .i64 7)).setCell ⟨w.heap.size + 1, 1, none⟩ (.slice vA vN vC)).setCell ⟨w.heap.size + 1, 2, none⟩ (.slice qA qN qC)).setCell ⟨w.heap.size + 1, 3, none⟩ (.int .i64 xf)).setCell ⟨w.heap.size + 1, 4, none⟩ (.int .i64 xc)).setCell ⟨w.heap.size + 1, 5, none⟩ (.bool xh)) := (((((((Chg.refl (fun j => j = w.heap.size + 1) wr).setCell (p := ⟨w.heap.size + 1, 0, none⟩) (fun _ => rfl) _).setCell (p := ⟨w.heap.size + 1, 1, none⟩) (fun _ => rfl) _).setCell (p := ⟨w.heap.size + 1, 2, none⟩) (fun _ => rfl) _).setCell (p := ⟨w.heap.size + 1, 3, none⟩) (fun _ => rfl) _).setCell (p := ⟨w.heap.size + 1, 4, none⟩) (fun _ => rfl) _).setCell (p := ⟨w.heap.size + 1, 5, none⟩) (fun _ => rfl) _)
        have hft : ∀ j cs t, j = w.heap.size + 1 → wr.heap[j]? = some (.cells cs t (0, 0)) → t = 59 := fun j cs t hj hc => cells_t hR.out (hj ▸ hc)
        have hBf : Aside0 (BkR _ w0.heap.size g tA oA bA tc oc bc s _ vt2 vo2 va vb) := ⟨hB.out.hit hs4 (fun j cs t hj hc => by rw [hft j cs t hj hc]; decide)⟩
        have hTf : Aside0 (Turn w _ w0.heap.size [3, 114]) := ⟨hT.out.then_own hs4 (fun j hj => by rw [hj]; omega)⟩
        have hif := Aside0.mk (hO.out.chg hs4 (fun j h1 h2 => ow_blk_ne hO.out (h2 ▸ hR.out) (by decide) h1))
        have hkf := Aside0.mk (hQ.out.chg hs4 (fun j h1 h2 => ow_blk_ne hQ.out (h2 ▸ hR.out) (by decide) h1))
        clear hft hs4
        go_wp2
        refine bodyPost_ret (results_cell_row rfl _ _ _ _ _ _ _ rfl bf Try.underlying59 rfl (by kernel_rfl)) rfl ?_
        refine ⟨vt2, vo2, (vA, vN, vC), (qA, qN, qC), ?_, ?_, hTf.out, ?_, ?_⟩
        · first | (rw [hE.out]; done) | (rw [hE.out]; rfl) | (rw [hE.out]; simp)
        · rw [hE.out]; exact hBf.out
        · rw [hE.out]; exact hif.out
        · rw [hE.out]; exact hkf.out
end Go.Proofs.Ytdoghjmanogelaa.K
