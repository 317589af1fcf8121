import Derived.Test.YtdoghjmanogelaaTz
import Derived.Test.YtdoghjmanogelaaSm
import Derived.IntWalk
import Derived.BigQuiet
import Derived.Deep.RegionHeld3
namespace Go.Proofs.Ytdoghjmanogelaa.K
open Go.RowKit Go.Proofs.YtdoghjmanogelaaW.PrintWords Go.Proofs.YtdoghjmanogelaaW.PrintLast Go.Proofs.YtdoghjmanogelaaW.PrintMore
set_option linter.unusedVariables false
set_option linter.unusedSimpArgs false
set_option maxRecDepth 100000
theorem BkR.hit {w w' : World} {lo g : Nat} {tA oA bA : Option Addr} {tc oc bc : Nat} {s : QS} {b : Bk} {vt vo va vb : SV} {S : Nat → Prop} (h : BkR w lo g tA oA bA tc oc bc s b vt vo va vb) (hc : Chg S w w') (hh : ∀ j cs t, S j → w.heap[j]? = some (.cells cs t (0, 0)) → t ∉ [3, 114]) : BkR w' lo g tA oA bA tc oc bc s b vt vo va vb := by
  have hr : ∀ {v : SV} {xs : List Int}, Ow (Kd.int .i64) 3 w lo v xs → Ow (Kd.int .i64) 3 w' lo v xs := fun ho => ho.chg hc (fun j h1 h2 => by
    obtain ⟨cu, ec⟩ := Kd.R_typed ho.1 j h1
    exact hh _ _ _ h2 ec (by simp))
  exact ⟨hc.blk h.q (fun hs => hh _ _ _ hs h.q (by simp)), h.lg, hr h.rt, hr h.ro, hr h.ra, hr h.rb, h.pto, h.pta, h.ptb, h.poa, h.pob, h.pab⟩
theorem Turn.then_own {w w1 w' : World} {lo : Nat} {ts : List TypeId} {S : Nat → Prop} (h : Turn w w1 lo ts) (h1 : Chg S w1 w') (hS : ∀ b, S b → w.heap.size ≤ b) : Turn w w' lo ts := by
  obtain ⟨S0, hc, hl, h0⟩ := h
  exact ⟨S0, hc.trans h1 (fun b hb h2 => absurd (hS b h2) (by omega)), hl, h0⟩
def ValPost (w : World) (lo g : Nat) (tA oA bA : Option Addr) (tc oc bc : Nat) (s : QS) (r : QV × Bk) (va vb : SV) (e : Ending) (w' : World) : Prop := ∃ vt vo : SV, e = .returned (.agg #[.int .i64 r.1.kind, .int .i64 r.1.n]) ∧ BkR w' lo g tA oA bA tc oc bc s r.2 vt vo va vb ∧ Turn w w' lo [3, 114]
set_option maxHeartbeats 4000000
theorem book_value4 (w : World) (lo g : Nat) (tA oA bA : Option Addr) (tc oc bc : Nat) (s : QS) (b : Bk) (vt vo va vb : SV) (kind n : Int) (h : BkR w lo g tA oA bA tc oc bc s b vt vo va vb) (hok : BkOk s b) (hn : s.texts.length ≤ 1048576) (hnn : n ≤ 9223372036854775807) (hk : kind = 4) :
    Calls Try.prog 85 #[.pointer (some ⟨g, 0, none⟩), .agg #[.int .i64 kind, .int .i64 n]] w (ValPost w lo g tA oA bA tc oc bc s (numV s b ⟨kind, n⟩) va vb) := by
  have hB := Aside0.mk h
  have hE : Aside0 (numV s b ⟨kind, n⟩ = (⟨kind, (numT s b n).1⟩, (numT s b n).2)) := ⟨by unfold numV; rw [if_pos hk]⟩
  have hk4 : (kind == 4) = true := by simpa using hk
  clear h hk
  go_enter Try.func85, Try.ntmps85
  go_upto_region 1 with (fail)
  (try simp only [Act.put, List.setIfInBounds_toArray, List.set_cons_zero, List.set_cons_succ])
  generalize hW : World.alloc (World.alloc w _) _ = W0
  have B1 : Aside0 (W0.heap[w.heap.size]? = some (.cells #[.int .i64 kind, .int .i64 n] 56)) := ⟨by rw [← hW]; exact ((Chg.refl (fun _ => False) (w.alloc _)).alloc _).blk (heap_alloc_new w _) (fun e => e)⟩
  have B2 : Aside0 (W0.heap[w.heap.size + 1]? = some (.cells #[.int .i64 0, .int .i64 0] 56)) := ⟨by rw [← hW]; exact heap_alloc2_new w _ _⟩
  have hz0 : Aside0 (Chg (fun _ => False) w W0) := ⟨by rw [← hW]; exact cg⟩
  clear hW
  have hgt := blk_lt B2.out
  have hB0 := Aside0.mk (hB.out.new hz0.out)
  have p0 : W0.cell? ⟨w.heap.size, 0, none⟩ = some (.int .i64 kind) := blk_cell B1.out 0
  have p1 : W0.cell? ⟨w.heap.size, 1, none⟩ = some (.int .i64 n) := blk_cell B1.out 1
  go_upto_region 2 with (fail)
  (try simp only [Act.put, List.setIfInBounds_toArray, List.set_cons_zero, List.set_cons_succ])
  have hz0d : Aside0 (Chg (fun _ => False) W0 W0.drew) := ⟨(Chg.refl (fun _ => False) W0).drew⟩
  refine start_ (n := 8) (S := fun w' => w'.cell? ⟨w.heap.size, 0, none⟩ = some (.int .i64 kind) ∧ w'.cell? ⟨w.heap.size, 1, none⟩ = some (.int .i64 n)) (ds := [7]) #[false, false, false, false, false, false, false, false] (by kernel_rfl) rfl rfl ⟨p0, p1⟩ (fun hHeld => ?_)
  refine pure_ (i := 0) (N := some 8) (v := ?_) (a' := ?_) #[true, false, false, false, false, false, false, false] rfl rfl (by kernel_rfl) (fun _ _ _ h => h) (Or.inl ⟨by rfl, ?_⟩) ?_ ?_
  rotate_left
  · intro w'
    go_simp
    with_reducible rfl
  rotate_left
  · simp only [Act.put, List.setIfInBounds_toArray, List.set_cons_zero, List.set_cons_succ, i64_w, i32_w]
    rfl
  refine pure_ (i := 2) (N := some 10) (v := ?_) (a' := ?_) #[true, false, true, false, false, false, false, false] rfl rfl (by kernel_rfl) (fun _ _ _ h => h) (Or.inl ⟨by rfl, ?_⟩) ?_ ?_
  rotate_left
  · intro w'
    go_simp
    with_reducible rfl
  rotate_left
  · simp only [Act.put, List.setIfInBounds_toArray, List.set_cons_zero, List.set_cons_succ, i64_w, i32_w]
    rfl
  refine pure_ (i := 3) (N := some 11) (v := ?_) (a' := ?_) #[true, false, true, true, false, false, false, false] rfl rfl (by kernel_rfl) (fun _ _ _ h => h) (Or.inl ⟨by rfl, ?_⟩) ?_ ?_
  rotate_left
  · intro w'
    go_simp
    with_reducible rfl
  rotate_left
  · simp only [Act.put, List.setIfInBounds_toArray, List.set_cons_zero, List.set_cons_succ, i64_w, i32_w]
    rfl
  refine take_ (i := 1) (N := some 9) (v := ?_) (a' := ?_) #[true, true, true, true, false, false, false, false] rfl rfl (by kernel_rfl) (fun _ _ _ h => h) (Or.inl ⟨by rfl, ?_⟩) hHeld ?_ ?_
  rotate_left
  · rintro w' ⟨s0, s1⟩
    go_simp
    with_reducible rfl
  rotate_left
  · simp only [Act.put, List.setIfInBounds_toArray, List.set_cons_zero, List.set_cons_succ, i64_w, i32_w]
    rfl
  refine take_ (i := 4) (N := some 12) (v := ?_) (a' := ?_) #[true, true, true, true, true, false, false, false] rfl rfl (by kernel_rfl) (fun _ _ _ h => h) (Or.inl ⟨by rfl, ?_⟩) hHeld ?_ ?_
  rotate_left
  · rintro w' ⟨s0, s1⟩
    go_simp
    with_reducible rfl
  rotate_left
  · simp only [Act.put, List.setIfInBounds_toArray, List.set_cons_zero, List.set_cons_succ, i64_w, i32_w]
    rfl
  refine one_ (i := 5) (N := some 13) #[true, true, true, true, true, true, false, false] rfl rfl (by kernel_rfl) (by decide) (fun K hK => ?_)
  refine goes_ Try.func86 (by kernel_rfl) rfl #[.pointer (some ⟨g, 0, none⟩), .int .i64 n] (by rfl) rfl rfl (by simp only [List.map_toArray, List.map_cons, List.map_nil]; rfl) ?_
  with_reducible refine ((book_text W0.drew lo g tA oA bA tc oc bc s b vt vo va vb n (hB0.out.new ((Chg.refl (fun _ => False) W0).drew)) hok hn hnn)).mono ?_
  rintro e w3 hp
  obtain ⟨vt3, rfl, hB3, hT3⟩ := hp
  refine ⟨_, rfl, ?_⟩
  have hB23 := Aside0.mk (hT3.blk (hz0d.out.blk B2.out (fun h => h)) (by decide))
  have y0 := blk_cell hB23.out 0
  have y1 := blk_cell hB23.out 1
  have f0 := blk_frozen hB23.out 0
  have f1 := blk_frozen hB23.out 1
  replace hB3 := Aside0.mk hB3
  replace hT3 := Aside0.mk hT3
  have hB13 := Aside0.mk (hT3.out.blk (hz0d.out.blk B1.out (fun h => h)) (by decide))
  refine hK.out _ _ ⟨(blk_cell hB13.out 0), (blk_cell hB13.out 1)⟩ (fun hHeld => ?_)
  clear hK K
  refine norm_ (a' := ?_) ?_ ?_
  rotate_left
  · show Act.put _ (some 13) _ = _
    simp only [Act.put, List.setIfInBounds_toArray, List.set_cons_zero, List.set_cons_succ, i64_w, i32_w]
    rfl
  refine pure_ (i := 6) (N := some 14) (v := ?_) (a' := ?_) #[true, true, true, true, true, true, true, false] rfl rfl (by kernel_rfl) (fun _ _ _ h => h) (Or.inl ⟨by rfl, ?_⟩) ?_ ?_
  rotate_left
  · intro w'
    go_simp
    with_reducible rfl
  rotate_left
  · simp only [Act.put, List.setIfInBounds_toArray, List.set_cons_zero, List.set_cons_succ, i64_w, i32_w]
    rfl
  refine last_ (i := 7) (N := none) #[true, true, true, true, true, true, true, true] rfl rfl (by kernel_rfl) (by decide) (fun K hK => ?_)
  refine skip_ (w1 := ?_) (by rfl) rfl ?_ ?_
  rotate_left
  · go_simp
    rfl
  refine hK.out _ _ ?_
  clear hK K
  refine done_ (by kernel_rfl) ?_
  have bf := blk_set (blk_set hB23.out 0 (.int .i64 kind)) 1 (.int .i64 (numT s b n).1)
  have hs4 : Chg (fun j => j = w.heap.size + 1) w3 ((w3.setCell ⟨w.heap.size + 1, 0, none⟩ (.int .i64 kind)).setCell ⟨w.heap.size + 1, 1, none⟩ (.int .i64 (numT s b n).1)) := ((Chg.refl (fun j => j = w.heap.size + 1) w3).setCell (p := ⟨w.heap.size + 1, 0, none⟩) (fun _ => rfl) _).setCell (p := ⟨w.heap.size + 1, 1, none⟩) (fun _ => rfl) _
  have hBf : Aside0 (BkR _ lo g tA oA bA tc oc bc s (numT s b n).2 vt3 vo va vb) := ⟨hB3.out.hit hs4 (fun j cs t hj hc => by
    subst hj
    rw [hB23.out] at hc
    injection hc with hc
    injection hc with _ hc
    rw [← hc]; decide)⟩
  have hTf : Aside0 (Turn w _ lo [3, 114]) := ⟨(Turn.new_then (hz0.out.trans hz0d.out (fun _ _ h => h)) hT3.out).then_own hs4 (fun j hj => by rw [hj]; omega)⟩
  go_wp2
  refine bodyPost_ret (results_cell_row rfl _ _ _ _ _ _ _ rfl bf Try.underlying56 rfl (by kernel_rfl)) rfl ?_
  exact ⟨vt3, vo, by first | (rw [hE.out]; done) | (rw [hE.out]; rfl) | (rw [hE.out]; simp), by rw [hE.out]; exact hBf.out, hTf.out⟩
set_option maxHeartbeats 4000000 in
theorem book_valueN (w : World) (lo g : Nat) (tA oA bA : Option Addr) (tc oc bc : Nat) (s : QS) (b : Bk) (vt vo va vb : SV) (ros : List RO) (rbs : List RB) (L : List (List RF)) (kind n : Int) (h : BkR w lo g tA oA bA tc oc bc s b vt vo va vb) (hV : SView w tA oA bA s ros rbs L) (hnn : n ≤ 9223372036854775807) (hk : kind ≠ 4) (hin : namesQ s.objs kind n = false) :
    Calls Try.prog 85 #[.pointer (some ⟨g, 0, none⟩), .agg #[.int .i64 kind, .int .i64 n]] w (ValPost w lo g tA oA bA tc oc bc s (numV s b ⟨kind, n⟩) va vb) := by
  have hB := Aside0.mk h
  have hE : Aside0 (numV s b ⟨kind, n⟩ = (⟨kind, n⟩, b)) := ⟨by unfold numV; rw [if_neg hk, if_neg (by rw [hin]; decide)]⟩
  have hk4 : (kind == 4) = false := by simpa using hk
  have hVA := Aside0.mk hV
  clear h hk hV
  go_enter Try.func85, Try.ntmps85
  go_upto_region 1 with (fail)
  (try simp only [Act.put, List.setIfInBounds_toArray, List.set_cons_zero, List.set_cons_succ])
  generalize hW : World.alloc (World.alloc w _) _ = W0
  have B1 : Aside0 (W0.heap[w.heap.size]? = some (.cells #[.int .i64 kind, .int .i64 n] 56)) := ⟨by rw [← hW]; exact ((Chg.refl (fun _ => False) (w.alloc _)).alloc _).blk (heap_alloc_new w _) (fun e => e)⟩
  have B2 : Aside0 (W0.heap[w.heap.size + 1]? = some (.cells #[.int .i64 0, .int .i64 0] 56)) := ⟨by rw [← hW]; exact heap_alloc2_new w _ _⟩
  have hz0 : Aside0 (Chg (fun _ => False) w W0) := ⟨by rw [← hW]; exact cg⟩
  clear hW
  have hgt := blk_lt B2.out
  have hB0 := Aside0.mk (hB.out.new hz0.out)
  have p0 : W0.cell? ⟨w.heap.size, 0, none⟩ = some (.int .i64 kind) := blk_cell B1.out 0
  have p1 : W0.cell? ⟨w.heap.size, 1, none⟩ = some (.int .i64 n) := blk_cell B1.out 1
  have q1 : W0.cell? ⟨g, 1, none⟩ = some (.slice oA s.objs.length oc) := blk_cell hB0.out.q 1
  have hV0 : Aside0 (SView W0.drew tA oA bA s ros rbs L) := ⟨hVA.out.below bl⟩
  go_upto_region 3 with (fail)
  (try simp only [Act.put, List.setIfInBounds_toArray, List.set_cons_zero, List.set_cons_succ])
  go_region_held3 (fun w' => w'.cell? ⟨g, 1, none⟩ = some (.slice oA s.objs.length oc) ∧ w'.cell? ⟨w.heap.size, 0, none⟩ = some (.int .i64 kind) ∧ w'.cell? ⟨w.heap.size, 1, none⟩ = some (.int .i64 n)) (first | exact ⟨q1, p0, p1⟩ | go_keep | exact ⟨kc, kc, kc⟩) ((go_at_call 54; (refine (ref_NamesObject _ oA oc s.objs ros kind n hV0.out.os hV0.out.os.1 hV0.out.ro hnn).mono ?_); (rintro e w3 ⟨rfl, hc3⟩); (replace hc3 := Aside0.mk hc3)))
  have hz3 : Aside0 (Chg (fun _ => False) W0 w3) := ⟨cg⟩
  have hB23 := Aside0.mk (hz3.out.blk B2.out (fun h => h))
  have hB13 := Aside0.mk (hz3.out.blk B1.out (fun h => h))
  have p0' := blk_cell hB13.out 0
  have p1' := blk_cell hB13.out 1
  have y0 := blk_cell hB23.out 0
  have y1 := blk_cell hB23.out 1
  have f0 := blk_frozen hB23.out 0
  have f1 := blk_frozen hB23.out 1
  clear p0 p1 q1
  have bf := blk_set (blk_set hB23.out 0 (.int .i64 kind)) 1 (.int .i64 n)
  have hs4 : Chg (fun j => j = w.heap.size + 1) w3 ((w3.setCell ⟨w.heap.size + 1, 0, none⟩ (.int .i64 kind)).setCell ⟨w.heap.size + 1, 1, none⟩ (.int .i64 n)) := ((Chg.refl (fun j => j = w.heap.size + 1) w3).setCell (p := ⟨w.heap.size + 1, 0, none⟩) (fun _ => rfl) _).setCell (p := ⟨w.heap.size + 1, 1, none⟩) (fun _ => rfl) _
  have hBf : Aside0 (BkR _ lo g tA oA bA tc oc bc s b vt vo va vb) := ⟨(hB0.out.new hz3.out).hit hs4 (fun j cs t hj hc => by
    subst hj
    rw [hB23.out] at hc
    injection hc with hc
    injection hc with _ hc
    rw [← hc]; decide)⟩
  have hTf : Aside0 (Turn w _ lo [3, 114]) := ⟨(Turn.of_new (hz0.out.trans hz3.out (fun _ _ h => h))).then_own hs4 (fun j hj => by rw [hj]; omega)⟩
  go_wp2
  refine bodyPost_ret (results_cell_row rfl _ _ _ _ _ _ _ rfl bf Try.underlying56 rfl (by kernel_rfl)) rfl ?_
  exact ⟨vt, vo, by first | (rw [hE.out]; done) | (rw [hE.out]; rfl) | (rw [hE.out]; simp), by rw [hE.out]; exact hBf.out, hTf.out⟩
set_option maxHeartbeats 4000000 in
theorem book_valueM (w : World) (lo g : Nat) (tA oA bA : Option Addr) (tc oc bc : Nat) (s : QS) (b : Bk) (vt vo va vb : SV) (ros : List RO) (rbs : List RB) (L : List (List RF)) (kind : Int) (k : Nat) (h : BkR w lo g tA oA bA tc oc bc s b vt vo va vb) (hok : BkOk s b) (hV : SView w tA oA bA s ros rbs L) (hno : s.objs.length ≤ 1048576) (hk : kind ≠ 4) (hin : namesQ s.objs kind k = true) (hkt : k < s.objs.length) (hmem : k ∈ b.os) :
    Calls Try.prog 85 #[.pointer (some ⟨g, 0, none⟩), .agg #[.int .i64 kind, .int .i64 (k : Int)]] w (ValPost w lo g tA oA bA tc oc bc s (numV s b ⟨kind, k⟩) va vb) := by
  have hE : Aside0 (numV s b ⟨kind, k⟩ = (⟨kind, (b.os.idxOf k : Int)⟩, b)) := ⟨by unfold numV metN; rw [if_neg hk, if_pos hin, Int.toNat_natCast, if_pos hmem]⟩
  have hk4 : (kind == 4) = false := by simpa using hk
  have hVA := Aside0.mk hV
  have hnn : Aside0 ((k : Int) ≤ 9223372036854775807) := ⟨by omega⟩
  have hat := atL_at (l := b.os) hkt
  have hlen := atL_len s.objs.length b.os
  obtain ⟨xA, xN, xC⟩ := vb
  obtain ⟨gx, e1⟩ := h.rb.some (by rw [hlen]; omega)
  subst e1
  obtain rfl : xN = s.objs.length := (h.rb.len).1.trans hlen
  have hB := Aside0.mk h
  rw [if_pos hmem] at hat
  have hatA := Aside0.mk hat
  have hkA := Aside0.mk hkt
  clear h hk hV hmem hat hlen hkt
  go_enter Try.func85, Try.ntmps85
  go_upto_region 1 with (fail)
  (try simp only [Act.put, List.setIfInBounds_toArray, List.set_cons_zero, List.set_cons_succ])
  generalize hW : World.alloc (World.alloc w _) _ = W0
  have B1 : Aside0 (W0.heap[w.heap.size]? = some (.cells #[.int .i64 kind, .int .i64 (k : Int)] 56)) := ⟨by rw [← hW]; exact ((Chg.refl (fun _ => False) (w.alloc _)).alloc _).blk (heap_alloc_new w _) (fun e => e)⟩
  have B2 : Aside0 (W0.heap[w.heap.size + 1]? = some (.cells #[.int .i64 0, .int .i64 0] 56)) := ⟨by rw [← hW]; exact heap_alloc2_new w _ _⟩
  have hz0 : Aside0 (Chg (fun _ => False) w W0) := ⟨by rw [← hW]; exact cg⟩
  clear hW
  have hgt := blk_lt B2.out
  have hB0 := Aside0.mk (hB.out.new hz0.out)
  have p0 : W0.cell? ⟨w.heap.size, 0, none⟩ = some (.int .i64 kind) := blk_cell B1.out 0
  have p1 : W0.cell? ⟨w.heap.size, 1, none⟩ = some (.int .i64 (k : Int)) := blk_cell B1.out 1
  have q1 : W0.cell? ⟨g, 1, none⟩ = some (.slice oA s.objs.length oc) := blk_cell hB0.out.q 1
  have hV0 : Aside0 (SView W0.drew tA oA bA s ros rbs L) := ⟨hVA.out.below bl⟩
  go_upto_region 3 with (fail)
  (try simp only [Act.put, List.setIfInBounds_toArray, List.set_cons_zero, List.set_cons_succ])
  go_region_held3 (fun w' => w'.cell? ⟨g, 1, none⟩ = some (.slice oA s.objs.length oc) ∧ w'.cell? ⟨w.heap.size, 0, none⟩ = some (.int .i64 kind) ∧ w'.cell? ⟨w.heap.size, 1, none⟩ = some (.int .i64 (k : Int))) (first | exact ⟨q1, p0, p1⟩ | go_keep | exact ⟨kc, kc, kc⟩) ((go_at_call 54; (refine (ref_NamesObject _ oA oc s.objs ros kind (k : Int) hV0.out.os hV0.out.os.1 hV0.out.ro hnn.out).mono ?_); (rintro e w3 ⟨rfl, hc3⟩); (replace hc3 := Aside0.mk hc3)))
  have hz3 : Aside0 (Chg (fun _ => False) W0 w3) := ⟨cg⟩
  have hB23 := Aside0.mk (hz3.out.blk B2.out (fun h => h))
  have hB13 := Aside0.mk (hz3.out.blk B1.out (fun h => h))
  have hB3 := Aside0.mk (hB0.out.new hz3.out)
  have p0' : w3.cell? ⟨w.heap.size, 0, none⟩ = some (.int .i64 kind) := blk_cell hB13.out 0
  have p1' : w3.cell? ⟨w.heap.size, 1, none⟩ = some (.int .i64 (k : Int)) := blk_cell hB13.out 1
  have q10 : w3.cell? ⟨g, 10, none⟩ = some (.slice (some ⟨gx, 0, none⟩) s.objs.length xC) := blk_cell hB3.out.q 10
  have hk0 : (0 : Int) ≤ k := by omega
  have hk1 : (k : Int) < s.objs.length := by have := hkA.out; omega
  clear p0 p1 q1
  obtain ⟨ad, y, e2, e3, x0⟩ := i64_at hB3.out.rb.toC k hkA.out
  injection e2 with e2
  subst e2
  rw [hatA.out] at e3
  injection e3 with e3
  rw [add_plain, ← e3] at x0
  clear e3
  have hx1 : (0 : Int) ≤ (b.os.idxOf k : Int) := by omega
  have hx2 : ¬ ((b.os.idxOf k : Int) < 0) := by omega
  go_upto_region 5 with (fail)
  go_quiet (fail)
  go_upto_region 8 with (fail)
  (try simp only [Act.put, List.setIfInBounds_toArray, List.set_cons_zero, List.set_cons_succ])
  generalize hW5 : World.drewN w3 _ = W5
  have hz5 : Aside0 (Chg (fun _ => False) W0 W5) := ⟨by rw [← hW5]; exact cg⟩
  clear hW5 p0' p1' q10 x0
  have hB5 := Aside0.mk (hB0.out.new hz5.out)
  have hB25 := Aside0.mk (hz5.out.blk B2.out (fun h => h))
  have hB15 := Aside0.mk (hz5.out.blk B1.out (fun h => h))
  have p0' : W5.cell? ⟨w.heap.size, 0, none⟩ = some (.int .i64 kind) := blk_cell hB15.out 0
  have p1' : W5.cell? ⟨w.heap.size, 1, none⟩ = some (.int .i64 (k : Int)) := blk_cell hB15.out 1
  have q10 : W5.cell? ⟨g, 10, none⟩ = some (.slice (some ⟨gx, 0, none⟩) s.objs.length xC) := blk_cell hB5.out.q 10
  obtain ⟨ad, y, e2, e3, x0⟩ := i64_at hB5.out.rb.toC k hkA.out
  injection e2 with e2
  subst e2
  rw [hatA.out] at e3
  injection e3 with e3
  rw [add_plain, ← e3] at x0
  clear e3
  have y0 : W5.cell? ⟨w.heap.size + 1, 0, none⟩ = some (.int .i64 0) := blk_cell hB25.out 0
  have y1 : W5.cell? ⟨w.heap.size + 1, 1, none⟩ = some (.int .i64 0) := blk_cell hB25.out 1
  have f0 : W5.frozen? ⟨w.heap.size + 1, 0, none⟩ = false := blk_frozen hB25.out 0
  have f1 : W5.frozen? ⟨w.heap.size + 1, 1, none⟩ = false := blk_frozen hB25.out 1
  refine start_ (n := 12) (S := fun w' => w'.cell? ⟨w.heap.size, 0, none⟩ = some (.int .i64 kind) ∧ w'.cell? ⟨w.heap.size, 1, none⟩ = some (.int .i64 (k : Int)) ∧ w'.cell? ⟨g, 10, none⟩ = some (.slice (some ⟨gx, 0, none⟩) s.objs.length xC) ∧ w'.cell? ⟨gx, k, none⟩ = some (.int .i64 (b.os.idxOf k : Int))) (ds := [11]) #[false, false, false, false, false, false, false, false, false, false, false, false] (by kernel_rfl) rfl rfl ⟨p0', p1', q10, x0⟩ (fun hHeld => ?_)
  refine pure_ (i := 0) (N := some 56) (v := ?_) (a' := ?_) #[true, false, false, false, false, false, false, false, false, false, false, false] rfl rfl (by kernel_rfl) (fun _ _ _ h => h) (Or.inl ⟨by rfl, ?_⟩) ?_ ?_
  rotate_left
  · intro w'
    go_simp
    with_reducible rfl
  rotate_left
  · simp only [Act.put, List.setIfInBounds_toArray, List.set_cons_zero, List.set_cons_succ, i64_w, i32_w]
    rfl
  refine pure_ (i := 2) (N := some 58) (v := ?_) (a' := ?_) #[true, false, true, false, false, false, false, false, false, false, false, false] rfl rfl (by kernel_rfl) (fun _ _ _ h => h) (Or.inl ⟨by rfl, ?_⟩) ?_ ?_
  rotate_left
  · intro w'
    go_simp
    with_reducible rfl
  rotate_left
  · simp only [Act.put, List.setIfInBounds_toArray, List.set_cons_zero, List.set_cons_succ, i64_w, i32_w]
    rfl
  refine pure_ (i := 3) (N := some 59) (v := ?_) (a' := ?_) #[true, false, true, true, false, false, false, false, false, false, false, false] rfl rfl (by kernel_rfl) (fun _ _ _ h => h) (Or.inl ⟨by rfl, ?_⟩) ?_ ?_
  rotate_left
  · intro w'
    go_simp
    with_reducible rfl
  rotate_left
  · simp only [Act.put, List.setIfInBounds_toArray, List.set_cons_zero, List.set_cons_succ, i64_w, i32_w]
    rfl
  refine pure_ (i := 4) (N := some 60) (v := ?_) (a' := ?_) #[true, false, true, true, true, false, false, false, false, false, false, false] rfl rfl (by kernel_rfl) (fun _ _ _ h => h) (Or.inl ⟨by rfl, ?_⟩) ?_ ?_
  rotate_left
  · intro w'
    go_simp
    with_reducible rfl
  rotate_left
  · simp only [Act.put, List.setIfInBounds_toArray, List.set_cons_zero, List.set_cons_succ, i64_w, i32_w]
    rfl
  refine pure_ (i := 6) (N := some 62) (v := ?_) (a' := ?_) #[true, false, true, true, true, false, true, false, false, false, false, false] rfl rfl (by kernel_rfl) (fun _ _ _ h => h) (Or.inl ⟨by rfl, ?_⟩) ?_ ?_
  rotate_left
  · intro w'
    go_simp
    with_reducible rfl
  rotate_left
  · simp only [Act.put, List.setIfInBounds_toArray, List.set_cons_zero, List.set_cons_succ, i64_w, i32_w]
    rfl
  refine take_ (i := 1) (N := some 57) (v := ?_) (a' := ?_) #[true, true, true, true, true, false, true, false, false, false, false, false] rfl rfl (by kernel_rfl) (fun _ _ _ h => h) (Or.inl ⟨by rfl, ?_⟩) hHeld ?_ ?_
  rotate_left
  · rintro w' ⟨s0, s1, s2, s3⟩
    go_simp
    with_reducible rfl
  rotate_left
  · simp only [Act.put, List.setIfInBounds_toArray, List.set_cons_zero, List.set_cons_succ, i64_w, i32_w]
    rfl
  refine take_ (i := 5) (N := some 61) (v := ?_) (a' := ?_) #[true, true, true, true, true, true, true, false, false, false, false, false] rfl rfl (by kernel_rfl) (fun _ _ _ h => h) (Or.inl ⟨by rfl, ?_⟩) hHeld ?_ ?_
  rotate_left
  · rintro w' ⟨s0, s1, s2, s3⟩
    go_simp
    with_reducible rfl
  rotate_left
  · simp only [Act.put, List.setIfInBounds_toArray, List.set_cons_zero, List.set_cons_succ, i64_w, i32_w]
    rfl
  refine take_ (i := 7) (N := some 63) (v := ?_) (a' := ?_) #[true, true, true, true, true, true, true, true, false, false, false, false] rfl rfl (by kernel_rfl) (fun _ _ _ h => h) (Or.inl ⟨by rfl, ?_⟩) hHeld ?_ ?_
  rotate_left
  · rintro w' ⟨s0, s1, s2, s3⟩
    go_simp
    with_reducible rfl
  rotate_left
  · simp only [Act.put, List.setIfInBounds_toArray, List.set_cons_zero, List.set_cons_succ, i64_w, i32_w]
    rfl
  refine pure_ (i := 8) (N := some 64) (v := ?_) (a' := ?_) #[true, true, true, true, true, true, true, true, true, false, false, false] rfl rfl (by kernel_rfl) (fun _ _ _ h => h) (Or.inl ⟨by rfl, ?_⟩) ?_ ?_
  rotate_left
  · intro w'
    go_simp
    with_reducible rfl
  rotate_left
  · simp only [Act.put, List.setIfInBounds_toArray, List.set_cons_zero, List.set_cons_succ, i64_w, i32_w]
    rfl
  refine take_ (i := 9) (N := some 65) (v := ?_) (a' := ?_) #[true, true, true, true, true, true, true, true, true, true, false, false] rfl rfl (by kernel_rfl) (fun _ _ _ h => h) (Or.inl ⟨by rfl, ?_⟩) hHeld ?_ ?_
  rotate_left
  · rintro w' ⟨s0, s1, s2, s3⟩
    go_simp
    with_reducible rfl
  rotate_left
  · simp only [Act.put, List.setIfInBounds_toArray, List.set_cons_zero, List.set_cons_succ, i64_w, i32_w]
    rfl
  refine pure_ (i := 10) (N := some 66) (v := ?_) (a' := ?_) #[true, true, true, true, true, true, true, true, true, true, true, false] rfl rfl (by kernel_rfl) (fun _ _ _ h => h) (Or.inl ⟨by rfl, ?_⟩) ?_ ?_
  rotate_left
  · intro w'
    go_simp
    with_reducible rfl
  rotate_left
  · simp only [Act.put, List.setIfInBounds_toArray, List.set_cons_zero, List.set_cons_succ, i64_w, i32_w]
    rfl
  refine last_ (i := 11) (N := none) #[true, true, true, true, true, true, true, true, true, true, true, true] rfl rfl (by kernel_rfl) (by decide) (fun K hK => ?_)
  refine skip_ (w1 := ?_) (by rfl) rfl ?_ ?_
  rotate_left
  · go_simp
    rfl
  refine hK.out _ _ ?_
  clear hK K
  refine done_ (by kernel_rfl) ?_
  have bf := blk_drew (blk_set (blk_set hB25.out 0 (.int .i64 kind)) 1 (.int .i64 (b.os.idxOf k : Int)))
  have hs4 : Chg (fun j => j = w.heap.size + 1) W5 ((W5.setCell ⟨w.heap.size + 1, 0, none⟩ (.int .i64 kind)).setCell ⟨w.heap.size + 1, 1, none⟩ (.int .i64 (b.os.idxOf k : Int))).drew := (((Chg.refl (fun j => j = w.heap.size + 1) W5).setCell (p := ⟨w.heap.size + 1, 0, none⟩) (fun _ => rfl) _).setCell (p := ⟨w.heap.size + 1, 1, none⟩) (fun _ => rfl) _).drew
  have hBf : Aside0 (BkR _ lo g tA oA bA tc oc bc s b vt vo va (some ⟨gx, 0, none⟩, s.objs.length, xC)) := ⟨hB5.out.hit hs4 (fun j cs t hj hc => by
  subst hj
  rw [hB25.out] at hc
  injection hc with hc
  injection hc with _ hc
  rw [← hc]; decide)⟩
  have hTf : Aside0 (Turn w _ lo [3, 114]) := ⟨(Turn.of_new (hz0.out.trans hz5.out (fun _ _ h => h))).then_own hs4 (fun j hj => by rw [hj]; omega)⟩
  go_wp2
  refine bodyPost_ret (results_cell_row rfl _ _ _ _ _ _ _ rfl bf Try.underlying56 rfl (by kernel_rfl)) rfl ?_
  exact ⟨vt, vo, by first | (rw [hE.out]; done) | (rw [hE.out]; rfl) | (rw [hE.out]; simp), by rw [hE.out]; exact hBf.out, hTf.out⟩
theorem ow_blk_ne {α : Type} {kd : Kd α} {e t : TypeId} {w : World} {lo j : Nat} {v : SV} {xs : List α} {cs : Array Value} (h : Ow kd e w lo v xs) (hc : w.heap[j]? = some (.cells cs t (0, 0))) (hd : e ≠ t) (hj : (svl v).ownBlock = some j) : False := by
  obtain ⟨cu, ec⟩ := Kd.R_typed h.1 j hj
  rw [hc] at ec
  injection ec with ec
  injection ec with _ ec
  exact hd ec.symm
set_option maxHeartbeats 4000000 in
theorem book_valueA (w : World) (lo g : Nat) (tA oA bA : Option Addr) (tc oc bc : Nat) (s : QS) (b : Bk) (vt vo va vb : SV) (ros : List RO) (rbs : List RB) (L : List (List RF)) (kind : Int) (k : Nat) (h : BkR w lo g tA oA bA tc oc bc s b vt vo va vb) (hok : BkOk s b) (hV : SView w tA oA bA s ros rbs L) (hno : s.objs.length ≤ 1048576) (hk : kind ≠ 4) (hin : namesQ s.objs kind k = true) (hkt : k < s.objs.length) (hmem : k ∉ b.os) :
    Calls Try.prog 85 #[.pointer (some ⟨g, 0, none⟩), .agg #[.int .i64 kind, .int .i64 (k : Int)]] w (ValPost w lo g tA oA bA tc oc bc s (numV s b ⟨kind, k⟩) va vb) := by
  have hE : Aside0 (numV s b ⟨kind, k⟩ = (⟨kind, (b.os.length : Int)⟩, ⟨b.ts, b.os ++ [k]⟩)) := ⟨by unfold numV metN; rw [if_neg hk, if_pos hin, Int.toNat_natCast, if_neg hmem]⟩
  have hk4 : (kind == 4) = false := by simpa using hk
  have hVA := Aside0.mk hV
  have hnn : Aside0 ((k : Int) ≤ 9223372036854775807) := ⟨by omega⟩
  have hat := atL_at (l := b.os) hkt
  have hlen := atL_len s.objs.length b.os
  obtain ⟨xA, xN, xC⟩ := vb
  obtain ⟨gx, e1⟩ := h.rb.some (by rw [hlen]; omega)
  subst e1
  obtain rfl : xN = s.objs.length := (h.rb.len).1.trans hlen
  have hB := Aside0.mk h
  rw [if_neg hmem] at hat
  have hatA := Aside0.mk hat
  have hkA := Aside0.mk hkt
  have hmA := Aside0.mk hmem
  obtain ⟨yA, yN, yC⟩ := vo
  obtain rfl : yN = b.os.length := (h.ro.len).1.trans (by rw [List.length_map])
  have htl : b.os.length ≤ 1048576 := Nat.le_trans (nodup_lt hok.no hok.lo) hno
  clear h hk hV hmem hat hlen hkt
  go_enter Try.func85, Try.ntmps85
  go_upto_region 1 with (fail)
  (try simp only [Act.put, List.setIfInBounds_toArray, List.set_cons_zero, List.set_cons_succ])
  generalize hW : World.alloc (World.alloc w _) _ = W0
  have B1 : Aside0 (W0.heap[w.heap.size]? = some (.cells #[.int .i64 kind, .int .i64 (k : Int)] 56)) := ⟨by rw [← hW]; exact ((Chg.refl (fun _ => False) (w.alloc _)).alloc _).blk (heap_alloc_new w _) (fun e => e)⟩
  have B2 : Aside0 (W0.heap[w.heap.size + 1]? = some (.cells #[.int .i64 0, .int .i64 0] 56)) := ⟨by rw [← hW]; exact heap_alloc2_new w _ _⟩
  have hz0 : Aside0 (Chg (fun _ => False) w W0) := ⟨by rw [← hW]; exact cg⟩
  clear hW
  have hgt := blk_lt B2.out
  have hB0 := Aside0.mk (hB.out.new hz0.out)
  have p0 : W0.cell? ⟨w.heap.size, 0, none⟩ = some (.int .i64 kind) := blk_cell B1.out 0
  have p1 : W0.cell? ⟨w.heap.size, 1, none⟩ = some (.int .i64 (k : Int)) := blk_cell B1.out 1
  have q1 : W0.cell? ⟨g, 1, none⟩ = some (.slice oA s.objs.length oc) := blk_cell hB0.out.q 1
  have hV0 : Aside0 (SView W0.drew tA oA bA s ros rbs L) := ⟨hVA.out.below bl⟩
  go_upto_region 3 with (fail)
  (try simp only [Act.put, List.setIfInBounds_toArray, List.set_cons_zero, List.set_cons_succ])
  go_region_held3 (fun w' => w'.cell? ⟨g, 1, none⟩ = some (.slice oA s.objs.length oc) ∧ w'.cell? ⟨w.heap.size, 0, none⟩ = some (.int .i64 kind) ∧ w'.cell? ⟨w.heap.size, 1, none⟩ = some (.int .i64 (k : Int))) (first | exact ⟨q1, p0, p1⟩ | go_keep | exact ⟨kc, kc, kc⟩) ((go_at_call 54; (refine (ref_NamesObject _ oA oc s.objs ros kind (k : Int) hV0.out.os hV0.out.os.1 hV0.out.ro hnn.out).mono ?_); (rintro e w3 ⟨rfl, hc3⟩); (replace hc3 := Aside0.mk hc3)))
  have hz3 : Aside0 (Chg (fun _ => False) W0 w3) := ⟨cg⟩
  have hB23 := Aside0.mk (hz3.out.blk B2.out (fun h => h))
  have hB13 := Aside0.mk (hz3.out.blk B1.out (fun h => h))
  have hB3 := Aside0.mk (hB0.out.new hz3.out)
  have p0' : w3.cell? ⟨w.heap.size, 0, none⟩ = some (.int .i64 kind) := blk_cell hB13.out 0
  have p1' : w3.cell? ⟨w.heap.size, 1, none⟩ = some (.int .i64 (k : Int)) := blk_cell hB13.out 1
  have q10 : w3.cell? ⟨g, 10, none⟩ = some (.slice (some ⟨gx, 0, none⟩) s.objs.length xC) := blk_cell hB3.out.q 10
  have hk0 : (0 : Int) ≤ k := by omega
  have hk1 : (k : Int) < s.objs.length := by have := hkA.out; omega
  clear p0 p1 q1
  obtain ⟨ad, y, e2, e3, x0⟩ := i64_at hB3.out.rb.toC k hkA.out
  injection e2 with e2
  subst e2
  rw [hatA.out] at e3
  injection e3 with e3
  rw [add_plain, ← e3] at x0
  clear e3
  go_upto_region 5 with (fail)
  go_quiet (fail)
  go_upto_region 6 with (fail)
  (try simp only [Act.put, List.setIfInBounds_toArray, List.set_cons_zero, List.set_cons_succ])
  generalize hW5 : World.drewN w3 _ = W5
  have hz5 : Aside0 (Chg (fun _ => False) W0 W5) := ⟨by rw [← hW5]; exact cg⟩
  clear hW5 p0' p1' q10 x0
  have hB5 := Aside0.mk (hB0.out.new hz5.out)
  have hB25 := Aside0.mk (hz5.out.blk B2.out (fun h => h))
  have hB15 := Aside0.mk (hz5.out.blk B1.out (fun h => h))
  have p1' : W5.cell? ⟨w.heap.size, 1, none⟩ = some (.int .i64 (k : Int)) := blk_cell hB15.out 1
  have q10 : W5.cell? ⟨g, 10, none⟩ = some (.slice (some ⟨gx, 0, none⟩) s.objs.length xC) := blk_cell hB5.out.q 10
  have q8 : W5.cell? ⟨g, 8, none⟩ = some (.slice yA b.os.length yC) := blk_cell hB5.out.q 8
  obtain ⟨ad, y, e2, e3, x0⟩ := i64_at hB5.out.rb.toC k hkA.out
  injection e2 with e2
  subst e2
  rw [hatA.out] at e3
  injection e3 with e3
  rw [add_plain, ← e3] at x0
  clear e3
  obtain ⟨cu, hcu⟩ := Kd.R_typed hB5.out.rb.1 gx rfl
  have fz := blk_frozen hcu k
  have hgx : Aside0 (g ≠ gx) := ⟨fun e => by subst e; exact ow_blk_ne hB5.out.rb hB5.out.q (by decide) rfl⟩
  clear hcu
  refine start_ (n := 13) (S := fun w' => w'.cell? ⟨w.heap.size, 1, none⟩ = some (.int .i64 (k : Int)) ∧ w'.cell? ⟨g, 10, none⟩ = some (.slice (some ⟨gx, 0, none⟩) s.objs.length xC) ∧ w'.cell? ⟨g, 8, none⟩ = some (.slice yA b.os.length yC)) (ds := [12]) #[false, false, false, false, false, false, false, false, false, false, false, false, false] (by kernel_rfl) rfl rfl ⟨p1', q10, q8⟩ (fun hHeld => ?_)
  refine pure_ (i := 0) (N := some 33) (v := ?_) (a' := ?_) #[true, false, false, false, false, false, false, false, false, false, false, false, false] rfl rfl (by kernel_rfl) (fun _ _ _ h => h) (Or.inl ⟨by rfl, ?_⟩) ?_ ?_
  rotate_left
  · intro w'
    go_simp
    with_reducible rfl
  rotate_left
  · simp only [Act.put, List.setIfInBounds_toArray, List.set_cons_zero, List.set_cons_succ, i64_w, i32_w]
    rfl
  refine pure_ (i := 1) (N := some 34) (v := ?_) (a' := ?_) #[true, true, false, false, false, false, false, false, false, false, false, false, false] rfl rfl (by kernel_rfl) (fun _ _ _ h => h) (Or.inl ⟨by rfl, ?_⟩) ?_ ?_
  rotate_left
  · intro w'
    go_simp
    with_reducible rfl
  rotate_left
  · simp only [Act.put, List.setIfInBounds_toArray, List.set_cons_zero, List.set_cons_succ, i64_w, i32_w]
    rfl
  refine pure_ (i := 2) (N := some 35) (v := ?_) (a' := ?_) #[true, true, true, false, false, false, false, false, false, false, false, false, false] rfl rfl (by kernel_rfl) (fun _ _ _ h => h) (Or.inl ⟨by rfl, ?_⟩) ?_ ?_
  rotate_left
  · intro w'
    go_simp
    with_reducible rfl
  rotate_left
  · simp only [Act.put, List.setIfInBounds_toArray, List.set_cons_zero, List.set_cons_succ, i64_w, i32_w]
    rfl
  refine pure_ (i := 4) (N := some 37) (v := ?_) (a' := ?_) #[true, true, true, false, true, false, false, false, false, false, false, false, false] rfl rfl (by kernel_rfl) (fun _ _ _ h => h) (Or.inl ⟨by rfl, ?_⟩) ?_ ?_
  rotate_left
  · intro w'
    go_simp
    with_reducible rfl
  rotate_left
  · simp only [Act.put, List.setIfInBounds_toArray, List.set_cons_zero, List.set_cons_succ, i64_w, i32_w]
    rfl
  refine pure_ (i := 6) (N := some 39) (v := ?_) (a' := ?_) #[true, true, true, false, true, false, true, false, false, false, false, false, false] rfl rfl (by kernel_rfl) (fun _ _ _ h => h) (Or.inl ⟨by rfl, ?_⟩) ?_ ?_
  rotate_left
  · intro w'
    go_simp
    with_reducible rfl
  rotate_left
  · simp only [Act.put, List.setIfInBounds_toArray, List.set_cons_zero, List.set_cons_succ, i64_w, i32_w]
    rfl
  refine pure_ (i := 7) (N := some 40) (v := ?_) (a' := ?_) #[true, true, true, false, true, false, true, true, false, false, false, false, false] rfl rfl (by kernel_rfl) (fun _ _ _ h => h) (Or.inl ⟨by rfl, ?_⟩) ?_ ?_
  rotate_left
  · intro w'
    go_simp
    with_reducible rfl
  rotate_left
  · simp only [Act.put, List.setIfInBounds_toArray, List.set_cons_zero, List.set_cons_succ, i64_w, i32_w]
    rfl
  refine pure_ (i := 8) (N := some 41) (v := ?_) (a' := ?_) #[true, true, true, false, true, false, true, true, true, false, false, false, false] rfl rfl (by kernel_rfl) (fun _ _ _ h => h) (Or.inl ⟨by rfl, ?_⟩) ?_ ?_
  rotate_left
  · intro w'
    go_simp
    with_reducible rfl
  rotate_left
  · simp only [Act.put, List.setIfInBounds_toArray, List.set_cons_zero, List.set_cons_succ, i64_w, i32_w]
    rfl
  refine take_ (i := 3) (N := some 36) (v := ?_) (a' := ?_) #[true, true, true, true, true, false, true, true, true, false, false, false, false] rfl rfl (by kernel_rfl) (fun _ _ _ h => h) (Or.inl ⟨by rfl, ?_⟩) hHeld ?_ ?_
  rotate_left
  · rintro w' ⟨s0, s1, s2⟩
    go_simp
    with_reducible rfl
  rotate_left
  · simp only [Act.put, List.setIfInBounds_toArray, List.set_cons_zero, List.set_cons_succ, i64_w, i32_w]
    rfl
  refine take_ (i := 5) (N := some 38) (v := ?_) (a' := ?_) #[true, true, true, true, true, true, true, true, true, false, false, false, false] rfl rfl (by kernel_rfl) (fun _ _ _ h => h) (Or.inl ⟨by rfl, ?_⟩) hHeld ?_ ?_
  rotate_left
  · rintro w' ⟨s0, s1, s2⟩
    go_simp
    with_reducible rfl
  rotate_left
  · simp only [Act.put, List.setIfInBounds_toArray, List.set_cons_zero, List.set_cons_succ, i64_w, i32_w]
    rfl
  refine take_ (i := 9) (N := some 42) (v := ?_) (a' := ?_) #[true, true, true, true, true, true, true, true, true, true, false, false, false] rfl rfl (by kernel_rfl) (fun _ _ _ h => h) (Or.inl ⟨by rfl, ?_⟩) hHeld ?_ ?_
  rotate_left
  · rintro w' ⟨s0, s1, s2⟩
    go_simp
    with_reducible rfl
  rotate_left
  · simp only [Act.put, List.setIfInBounds_toArray, List.set_cons_zero, List.set_cons_succ, i64_w, i32_w]
    rfl
  refine pure_ (i := 10) (N := some 43) (v := ?_) (a' := ?_) #[true, true, true, true, true, true, true, true, true, true, true, false, false] rfl rfl (by kernel_rfl) (fun _ _ _ h => h) (Or.inl ⟨by rfl, ?_⟩) ?_ ?_
  rotate_left
  · intro w'
    go_simp
    with_reducible rfl
  rotate_left
  · simp only [Act.put, List.setIfInBounds_toArray, List.set_cons_zero, List.set_cons_succ, i64_w, i32_w]
    rfl
  refine pure_ (i := 11) (N := some 44) (v := ?_) (a' := ?_) #[true, true, true, true, true, true, true, true, true, true, true, true, false] rfl rfl (by kernel_rfl) (fun _ _ _ h => h) (Or.inl ⟨by rfl, ?_⟩) ?_ ?_
  rotate_left
  · intro w'
    go_simp
    with_reducible rfl
  rotate_left
  · simp only [Act.put, List.setIfInBounds_toArray, List.set_cons_zero, List.set_cons_succ, i64_w, i32_w]
    rfl
  refine last_ (i := 12) (N := none) #[true, true, true, true, true, true, true, true, true, true, true, true, true] rfl rfl (by kernel_rfl) (by decide) (fun K hK => ?_)
  refine skip_ (w1 := ?_) (by rfl) rfl ?_ ?_
  rotate_left
  · go_simp
    rfl
  refine hK.out _ _ ?_
  clear hK K
  refine done_ (by kernel_rfl) ?_
  have hs1 : Chg (fun b => (svl (some ⟨gx, 0, none⟩, s.objs.length, xC)).ownBlock = some b) W5 ((W5.setCell ⟨gx, k, none⟩ (.int .i64 (b.os.length : Int))).drew) := (Chg.setCell (Chg.refl (fun b => (svl (some ⟨gx, 0, none⟩, s.objs.length, xC)).ownBlock = some b) W5) (p := ⟨gx, k, none⟩) (fun _ => rfl) _).drew
  have hput := Ow.put (kd := Kd.int .i64) (cells := fun x : Int => [.int .i64 x]) (j := 0) (m := 1) (u := .int .i64 (b.os.length : Int)) (r' := (b.os.length : Int)) (fun _ _ _ => Iff.rfl) (fun _ _ _ _ => rfl) rfl hB5.out.rb hatA.out rfl (by decide)
  rw [Nat.mul_one, Nat.add_zero, ← atL_snoc hkA.out hmA.out] at hput
  replace hput := Ow.chg hput (Chg.drew (Chg.refl (fun _ => False) _)) (fun _ _ h => h)
  generalize hW6 : World.drew _ = W6 at hs1 hput ⊢
  clear hW6
  have hq1 := Aside0.mk (hs1.blk hB5.out.q (fun e => hgx.out (Option.some.inj (show some gx = some g from e)).symm))
  have hB16 := Aside0.mk (hs1.blk hB15.out (fun e => ow_blk_ne hB5.out.rb hB15.out (by decide) e))
  have ht1 := hB5.out.ro.chg hs1 (fun b h1 h2 => hB5.out.pob b h1 h2)
  have ho1 := Aside0.mk (hB5.out.rt.chg hs1 (fun b h1 h2 => hB5.out.ptb b h1 h2))
  have hb1 := Aside0.mk (hB5.out.ra.chg hs1 (fun b h1 h2 => hB5.out.pab b h1 h2))
  have hRd := own_new ht1.1
  have hCd : Aside0 (Chg (fun j => (svl (yA, b.os.length, yC)).ownBlock = some j) W6 W6.drew) := ⟨(Chg.refl _ _).drew⟩
  have hnb : Aside0 (¬ (svl (yA, b.os.length, yC)).ownBlock = some w.heap.size) := ⟨fun e => ow_blk_ne ht1 hB16.out (by decide) e⟩
  replace hput := Aside0.mk hput
  replace ht1 := Aside0.mk ht1
  replace hs1 := Aside0.mk hs1
  clear p1' q10 q8 x0 fz
  have q8 : W6.cell? ⟨g, 8, none⟩ = some (.slice yA b.os.length yC) := blk_cell hq1.out 8
  have p1' : W6.cell? ⟨w.heap.size, 1, none⟩ = some (.int .i64 (k : Int)) := blk_cell hB16.out 1
  have hl : Aside0 (((b.os.map (fun k : Nat => (k : Int))).length + 1) * 8 ≤ 140737488355328) := ⟨by rw [List.length_map]; omega⟩
  go_upto_region 7 with (fail)
  (try simp only [Act.put, List.setIfInBounds_toArray, List.set_cons_zero, List.set_cons_succ])
  refine start_ (n := 12) (S := fun w' => w'.cell? ⟨g, 8, none⟩ = some (.slice yA b.os.length yC) ∧ w'.cell? ⟨w.heap.size, 1, none⟩ = some (.int .i64 (k : Int))) (ds := [11]) #[false, false, false, false, false, false, false, false, false, false, false, false] (by kernel_rfl) rfl rfl ⟨q8, p1'⟩ (fun hHeld => ?_)
  refine pure_ (i := 0) (N := some 45) (v := ?_) (a' := ?_) #[true, false, false, false, false, false, false, false, false, false, false, false] rfl rfl (by kernel_rfl) (fun _ _ _ h => h) (Or.inl ⟨by rfl, ?_⟩) ?_ ?_
  rotate_left
  · intro w'
    go_simp
    with_reducible rfl
  rotate_left
  · simp only [Act.put, List.setIfInBounds_toArray, List.set_cons_zero, List.set_cons_succ, i64_w, i32_w]
    rfl
  refine pure_ (i := 1) (N := some 46) (v := ?_) (a' := ?_) #[true, true, false, false, false, false, false, false, false, false, false, false] rfl rfl (by kernel_rfl) (fun _ _ _ h => h) (Or.inl ⟨by rfl, ?_⟩) ?_ ?_
  rotate_left
  · intro w'
    go_simp
    with_reducible rfl
  rotate_left
  · simp only [Act.put, List.setIfInBounds_toArray, List.set_cons_zero, List.set_cons_succ, i64_w, i32_w]
    rfl
  refine pure_ (i := 2) (N := some 47) (v := ?_) (a' := ?_) #[true, true, true, false, false, false, false, false, false, false, false, false] rfl rfl (by kernel_rfl) (fun _ _ _ h => h) (Or.inl ⟨by rfl, ?_⟩) ?_ ?_
  rotate_left
  · intro w'
    go_simp
    with_reducible rfl
  rotate_left
  · simp only [Act.put, List.setIfInBounds_toArray, List.set_cons_zero, List.set_cons_succ, i64_w, i32_w]
    rfl
  refine pure_ (i := 3) (N := some 48) (v := ?_) (a' := ?_) #[true, true, true, true, false, false, false, false, false, false, false, false] rfl rfl (by kernel_rfl) (fun _ _ _ h => h) (Or.inl ⟨by rfl, ?_⟩) ?_ ?_
  rotate_left
  · intro w'
    go_simp
    with_reducible rfl
  rotate_left
  · simp only [Act.put, List.setIfInBounds_toArray, List.set_cons_zero, List.set_cons_succ, i64_w, i32_w]
    rfl
  refine pure_ (i := 5) (N := some 50) (v := ?_) (a' := ?_) #[true, true, true, true, false, true, false, false, false, false, false, false] rfl rfl (by kernel_rfl) (fun _ _ _ h => h) (Or.inl ⟨by rfl, ?_⟩) ?_ ?_
  rotate_left
  · intro w'
    go_simp
    with_reducible rfl
  rotate_left
  · simp only [Act.put, List.setIfInBounds_toArray, List.set_cons_zero, List.set_cons_succ, i64_w, i32_w]
    rfl
  refine take_ (i := 4) (N := some 49) (v := ?_) (a' := ?_) #[true, true, true, true, true, true, false, false, false, false, false, false] rfl rfl (by kernel_rfl) (fun _ _ _ h => h) (Or.inl ⟨by rfl, ?_⟩) hHeld ?_ ?_
  rotate_left
  · rintro w' ⟨s0, s1⟩
    go_simp
    with_reducible rfl
  rotate_left
  · simp only [Act.put, List.setIfInBounds_toArray, List.set_cons_zero, List.set_cons_succ, i64_w, i32_w]
    rfl
  refine take_ (i := 6) (N := some 51) (v := ?_) (a' := ?_) #[true, true, true, true, true, true, true, false, false, false, false, false] rfl rfl (by kernel_rfl) (fun _ _ _ h => h) (Or.inl ⟨by rfl, ?_⟩) hHeld ?_ ?_
  rotate_left
  · rintro w' ⟨s0, s1⟩
    go_simp
    with_reducible rfl
  rotate_left
  · simp only [Act.put, List.setIfInBounds_toArray, List.set_cons_zero, List.set_cons_succ, i64_w, i32_w]
    rfl
  refine one_ (i := 7) (N := some 52) #[true, true, true, true, true, true, true, true, false, false, false, false] rfl rfl (by kernel_rfl) (by decide) (fun K hK => ?_)
  refine value_ (w1 := ?_) (v := ?_) (by rfl) rfl ?_ ?_
  rotate_left 2
  · go_simp
    constructor
    · rfl
    · rfl
  refine hK.out _ _ ⟨(cellQ hHeld.1 _), (cellQ hHeld.2 _)⟩ (fun hHeld => ?_)
  clear hK K
  refine norm_ (a' := ?_) ?_ ?_
  rotate_left
  · show Act.put _ (some 52) _ = _
    simp only [Act.put, List.setIfInBounds_toArray, List.set_cons_zero, List.set_cons_succ, i64_w, i32_w]
    rfl
  refine one_ (i := 8) (N := some 53) #[true, true, true, true, true, true, true, true, true, false, false, false] rfl rfl (by kernel_rfl) (by decide) (fun K hK => ?_)
  refine app1T (Kd.int .i64) (by rfl) (.tmp 49) (.tmp 52) (by rfl) Try.underlying97 infoInt rfl (by decide) (by decide) (k : Int) (by rfl) (by rfl) rfl hRd hCd hl ?_
  intro v1 w3 hr3 hc3
  obtain ⟨zA, zN, zC, rfl⟩ := R_sl hr3.out
  have hq3 := Aside0.mk (hc3.out.blk hq1.out (fun e => (by obtain ⟨cu, ec⟩ := Kd.R_typed ht1.out.1 g e; rw [hq1.out] at ec; injection ec with ec; injection ec with _ ec; exact absurd ec (by decide))))
  have q8z := blk_cell hq3.out 8
  have fz8 := blk_frozen hq3.out 8
  have p1z := cell_keepQ hc3.out hnb.out p1'
  refine hK.out _ _ ⟨q8z, p1z⟩ (fun hHeld => ?_)
  clear hK K
  refine norm_ (a' := ?_) ?_ ?_
  rotate_left
  · show Act.put _ (some 53) _ = _
    simp only [Act.put, List.setIfInBounds_toArray, List.set_cons_zero, List.set_cons_succ, i64_w, i32_w]
    rfl
  refine pure_ (i := 9) (N := some 54) (v := ?_) (a' := ?_) #[true, true, true, true, true, true, true, true, true, true, false, false] rfl rfl (by kernel_rfl) (fun _ _ _ h => h) (Or.inl ⟨by rfl, ?_⟩) ?_ ?_
  rotate_left
  · intro w'
    go_simp
    with_reducible rfl
  rotate_left
  · simp only [Act.put, List.setIfInBounds_toArray, List.set_cons_zero, List.set_cons_succ, i64_w, i32_w]
    rfl
  refine pure_ (i := 10) (N := some 55) (v := ?_) (a' := ?_) #[true, true, true, true, true, true, true, true, true, true, true, false] rfl rfl (by kernel_rfl) (fun _ _ _ h => h) (Or.inl ⟨by rfl, ?_⟩) ?_ ?_
  rotate_left
  · intro w'
    go_simp
    with_reducible rfl
  rotate_left
  · simp only [Act.put, List.setIfInBounds_toArray, List.set_cons_zero, List.set_cons_succ, i64_w, i32_w]
    rfl
  refine last_ (i := 11) (N := none) #[true, true, true, true, true, true, true, true, true, true, true, true] rfl rfl (by kernel_rfl) (by decide) (fun K hK => ?_)
  refine skip_ (w1 := ?_) (by rfl) rfl ?_ ?_
  rotate_left
  · go_simp
    rfl
  refine hK.out _ _ ?_
  clear hK K
  refine done_ (by kernel_rfl) ?_
  have hs4 : Chg (fun j => j = g) w3 (w3.setCell ⟨g, 8, none⟩ (.slice zA zN zC)) := (Chg.refl (fun j => j = g) w3).setCell (p := ⟨g, 8, none⟩) (fun _ => rfl) _
  have hq4 := blk_set hq3.out 8 (.slice zA zN zC)
  generalize hW8 : World.setCell w3 _ _ = W8 at hs4 hq4 ⊢
  clear hW8 q8 q8z p1z p1' fz8 hHeld
  have hlo1 : lo ≤ W6.heap.size := by have h1 := blk_lt hq1.out; have h2 := hB.out.lg; omega
  have hrt := Ow.app (v1 := (zA, zN, zC)) rfl ht1.out hr3.out hlo1
  have hmm : (b.os.map (fun k : Nat => (k : Int))) ++ [(k : Int)] = ((b.os ++ [k]).map (fun k : Nat => (k : Int))) := by simp
  rw [hmm] at hrt
  have hapt : ∀ {v : SV} {xs : List Int}, Ow (Kd.int .i64) 3 W6 lo v xs → apart (yA, b.os.length, yC) v → apart (zA, zN, zC) v := fun ho ha j h1 h2 => by
    rcases hr3.out.1 j h1 with h3 | h3
    · exact ha j h3 h2
    · have := ho.lt j h2
      omega
  have hfar : ∀ {v : SV} {xs : List Int}, Ow (Kd.int .i64) 3 w3 lo v xs → ∀ j, (svl v).ownBlock = some j → j = g → False := fun ho j h1 h2 => ow_blk_ne ho (h2 ▸ hq3.out) (by decide) h1
  have hro3 := ho1.out.chg hc3.out (fun j h1 h2 => hB5.out.pto j h1 h2)
  have hra3 := hb1.out.chg hc3.out (fun j h1 h2 => hB5.out.poa j h2 h1)
  have hrb3 := hput.out.chg hc3.out (fun j h1 h2 => hB5.out.pob j h2 h1)
  have hB8 : Aside0 (BkR W8 lo g tA oA bA tc oc bc s ⟨b.ts, b.os ++ [k]⟩ vt (zA, zN, zC) va (some ⟨gx, 0, none⟩, s.objs.length, xC)) := ⟨⟨hq4, hB5.out.lg, hro3.chg hs4 (hfar hro3), hrt.chg hs4 (hfar hrt), hra3.chg hs4 (hfar hra3), hrb3.chg hs4 (hfar hrb3), fun j h1 h2 => hapt ho1.out (fun j h1 h2 => hB5.out.pto j h2 h1) j h2 h1, hB5.out.pta, hB5.out.ptb, hapt hb1.out hB5.out.poa, hapt hput.out hB5.out.pob, hB5.out.pab⟩⟩
  have hTn : Aside0 (Turn W5 W8 lo [3, 114]) := ⟨⟨fun j => ((svl (some ⟨gx, 0, none⟩, s.objs.length, xC)).ownBlock = some j ∨ (svl (yA, b.os.length, yC)).ownBlock = some j) ∨ j = g, ((hs1.out.mono (fun _ _ h => Or.inl (Or.inl h))).trans hc3.out (fun _ _ h => Or.inl (Or.inr h))).trans hs4 (fun _ _ h => Or.inr h), fun j hj => by
    rcases hj with (h1 | h1) | h1
    · exact hB5.out.rb.2 j h1
    · exact hB5.out.ro.2 j h1
    · rw [h1]; exact hB5.out.lg, fun j cs t hj hc => by
    rcases hj with (h1 | h1) | h1
    · obtain ⟨cu, ec⟩ := Kd.R_typed hB5.out.rb.1 j h1
      rw [hc] at ec
      injection ec with ec
      injection ec with _ ec
      rw [ec]; simp
    · obtain ⟨cu, ec⟩ := Kd.R_typed hB5.out.ro.1 j h1
      rw [hc] at ec
      injection ec with ec
      injection ec with _ ec
      rw [ec]; simp
    · rw [h1, hB5.out.q] at hc
      injection hc with hc
      injection hc with _ hc
      rw [← hc]; simp⟩⟩
  have hB28 := Aside0.mk (hTn.out.blk hB25.out (by decide))
  have hB18 := Aside0.mk (hTn.out.blk hB15.out (by decide))
  clear hrt hmm hapt hfar hro3 hra3 hrb3 hs4 hq4
  go_upto_region 8 with (fail)
  (try simp only [Act.put, List.setIfInBounds_toArray, List.set_cons_zero, List.set_cons_succ])
  have p0' : W8.cell? ⟨w.heap.size, 0, none⟩ = some (.int .i64 kind) := blk_cell hB18.out 0
  have p1' : W8.cell? ⟨w.heap.size, 1, none⟩ = some (.int .i64 (k : Int)) := blk_cell hB18.out 1
  have q10 : W8.cell? ⟨g, 10, none⟩ = some (.slice (some ⟨gx, 0, none⟩) s.objs.length xC) := blk_cell hB8.out.q 10
  obtain ⟨ad, y, e2, e3, x0⟩ := i64_at hB8.out.rb.toC k hkA.out
  injection e2 with e2
  subst e2
  rw [atL_at hkA.out, if_pos (by simp), List.idxOf_append, if_neg hmA.out] at e3
  injection e3 with e3
  rw [add_plain, ← e3] at x0; simp only [List.idxOf_cons_self, Nat.add_zero, Nat.zero_add] at x0
  clear e3
  have y0 : W8.cell? ⟨w.heap.size + 1, 0, none⟩ = some (.int .i64 0) := blk_cell hB28.out 0
  have y1 : W8.cell? ⟨w.heap.size + 1, 1, none⟩ = some (.int .i64 0) := blk_cell hB28.out 1
  have f0 : W8.frozen? ⟨w.heap.size + 1, 0, none⟩ = false := blk_frozen hB28.out 0
  have f1 : W8.frozen? ⟨w.heap.size + 1, 1, none⟩ = false := blk_frozen hB28.out 1
  refine start_ (n := 12) (S := fun w' => w'.cell? ⟨w.heap.size, 0, none⟩ = some (.int .i64 kind) ∧ w'.cell? ⟨w.heap.size, 1, none⟩ = some (.int .i64 (k : Int)) ∧ w'.cell? ⟨g, 10, none⟩ = some (.slice (some ⟨gx, 0, none⟩) s.objs.length xC) ∧ w'.cell? ⟨gx, k, none⟩ = some (.int .i64 (b.os.length : Int))) (ds := [11]) #[false, false, false, false, false, false, false, false, false, false, false, false] (by kernel_rfl) rfl rfl ⟨p0', p1', q10, x0⟩ (fun hHeld => ?_)
  refine pure_ (i := 0) (N := some 56) (v := ?_) (a' := ?_) #[true, false, false, false, false, false, false, false, false, false, false, false] rfl rfl (by kernel_rfl) (fun _ _ _ h => h) (Or.inl ⟨by rfl, ?_⟩) ?_ ?_
  rotate_left
  · intro w'
    go_simp
    with_reducible rfl
  rotate_left
  · simp only [Act.put, List.setIfInBounds_toArray, List.set_cons_zero, List.set_cons_succ, i64_w, i32_w]
    rfl
  refine pure_ (i := 2) (N := some 58) (v := ?_) (a' := ?_) #[true, false, true, false, false, false, false, false, false, false, false, false] rfl rfl (by kernel_rfl) (fun _ _ _ h => h) (Or.inl ⟨by rfl, ?_⟩) ?_ ?_
  rotate_left
  · intro w'
    go_simp
    with_reducible rfl
  rotate_left
  · simp only [Act.put, List.setIfInBounds_toArray, List.set_cons_zero, List.set_cons_succ, i64_w, i32_w]
    rfl
  refine pure_ (i := 3) (N := some 59) (v := ?_) (a' := ?_) #[true, false, true, true, false, false, false, false, false, false, false, false] rfl rfl (by kernel_rfl) (fun _ _ _ h => h) (Or.inl ⟨by rfl, ?_⟩) ?_ ?_
  rotate_left
  · intro w'
    go_simp
    with_reducible rfl
  rotate_left
  · simp only [Act.put, List.setIfInBounds_toArray, List.set_cons_zero, List.set_cons_succ, i64_w, i32_w]
    rfl
  refine pure_ (i := 4) (N := some 60) (v := ?_) (a' := ?_) #[true, false, true, true, true, false, false, false, false, false, false, false] rfl rfl (by kernel_rfl) (fun _ _ _ h => h) (Or.inl ⟨by rfl, ?_⟩) ?_ ?_
  rotate_left
  · intro w'
    go_simp
    with_reducible rfl
  rotate_left
  · simp only [Act.put, List.setIfInBounds_toArray, List.set_cons_zero, List.set_cons_succ, i64_w, i32_w]
    rfl
  refine pure_ (i := 6) (N := some 62) (v := ?_) (a' := ?_) #[true, false, true, true, true, false, true, false, false, false, false, false] rfl rfl (by kernel_rfl) (fun _ _ _ h => h) (Or.inl ⟨by rfl, ?_⟩) ?_ ?_
  rotate_left
  · intro w'
    go_simp
    with_reducible rfl
  rotate_left
  · simp only [Act.put, List.setIfInBounds_toArray, List.set_cons_zero, List.set_cons_succ, i64_w, i32_w]
    rfl
  refine take_ (i := 1) (N := some 57) (v := ?_) (a' := ?_) #[true, true, true, true, true, false, true, false, false, false, false, false] rfl rfl (by kernel_rfl) (fun _ _ _ h => h) (Or.inl ⟨by rfl, ?_⟩) hHeld ?_ ?_
  rotate_left
  · rintro w' ⟨s0, s1, s2, s3⟩
    go_simp
    with_reducible rfl
  rotate_left
  · simp only [Act.put, List.setIfInBounds_toArray, List.set_cons_zero, List.set_cons_succ, i64_w, i32_w]
    rfl
  refine take_ (i := 5) (N := some 61) (v := ?_) (a' := ?_) #[true, true, true, true, true, true, true, false, false, false, false, false] rfl rfl (by kernel_rfl) (fun _ _ _ h => h) (Or.inl ⟨by rfl, ?_⟩) hHeld ?_ ?_
  rotate_left
  · rintro w' ⟨s0, s1, s2, s3⟩
    go_simp
    with_reducible rfl
  rotate_left
  · simp only [Act.put, List.setIfInBounds_toArray, List.set_cons_zero, List.set_cons_succ, i64_w, i32_w]
    rfl
  refine take_ (i := 7) (N := some 63) (v := ?_) (a' := ?_) #[true, true, true, true, true, true, true, true, false, false, false, false] rfl rfl (by kernel_rfl) (fun _ _ _ h => h) (Or.inl ⟨by rfl, ?_⟩) hHeld ?_ ?_
  rotate_left
  · rintro w' ⟨s0, s1, s2, s3⟩
    go_simp
    with_reducible rfl
  rotate_left
  · simp only [Act.put, List.setIfInBounds_toArray, List.set_cons_zero, List.set_cons_succ, i64_w, i32_w]
    rfl
  refine pure_ (i := 8) (N := some 64) (v := ?_) (a' := ?_) #[true, true, true, true, true, true, true, true, true, false, false, false] rfl rfl (by kernel_rfl) (fun _ _ _ h => h) (Or.inl ⟨by rfl, ?_⟩) ?_ ?_
  rotate_left
  · intro w'
    go_simp
    with_reducible rfl
  rotate_left
  · simp only [Act.put, List.setIfInBounds_toArray, List.set_cons_zero, List.set_cons_succ, i64_w, i32_w]
    rfl
  refine take_ (i := 9) (N := some 65) (v := ?_) (a' := ?_) #[true, true, true, true, true, true, true, true, true, true, false, false] rfl rfl (by kernel_rfl) (fun _ _ _ h => h) (Or.inl ⟨by rfl, ?_⟩) hHeld ?_ ?_
  rotate_left
  · rintro w' ⟨s0, s1, s2, s3⟩
    go_simp
    with_reducible rfl
  rotate_left
  · simp only [Act.put, List.setIfInBounds_toArray, List.set_cons_zero, List.set_cons_succ, i64_w, i32_w]
    rfl
  refine pure_ (i := 10) (N := some 66) (v := ?_) (a' := ?_) #[true, true, true, true, true, true, true, true, true, true, true, false] rfl rfl (by kernel_rfl) (fun _ _ _ h => h) (Or.inl ⟨by rfl, ?_⟩) ?_ ?_
  rotate_left
  · intro w'
    go_simp
    with_reducible rfl
  rotate_left
  · simp only [Act.put, List.setIfInBounds_toArray, List.set_cons_zero, List.set_cons_succ, i64_w, i32_w]
    rfl
  refine last_ (i := 11) (N := none) #[true, true, true, true, true, true, true, true, true, true, true, true] rfl rfl (by kernel_rfl) (by decide) (fun K hK => ?_)
  refine skip_ (w1 := ?_) (by rfl) rfl ?_ ?_
  rotate_left
  · go_simp
    rfl
  refine hK.out _ _ ?_
  clear hK K
  refine done_ (by kernel_rfl) ?_
  have bf := blk_drew (blk_set (blk_set hB28.out 0 (.int .i64 kind)) 1 (.int .i64 (b.os.length : Int)))
  have hs4 : Chg (fun j => j = w.heap.size + 1) W8 ((W8.setCell ⟨w.heap.size + 1, 0, none⟩ (.int .i64 kind)).setCell ⟨w.heap.size + 1, 1, none⟩ (.int .i64 (b.os.length : Int))).drew := (((Chg.refl (fun j => j = w.heap.size + 1) W8).setCell (p := ⟨w.heap.size + 1, 0, none⟩) (fun _ => rfl) _).setCell (p := ⟨w.heap.size + 1, 1, none⟩) (fun _ => rfl) _).drew
  have hBf : Aside0 (BkR _ lo g tA oA bA tc oc bc s ⟨b.ts, b.os ++ [k]⟩ vt (zA, zN, zC) va (some ⟨gx, 0, none⟩, s.objs.length, xC)) := ⟨hB8.out.hit hs4 (fun j cs t hj hc => by
  subst hj
  rw [hB28.out] at hc
  injection hc with hc
  injection hc with _ hc
  rw [← hc]; decide)⟩
  have hTf : Aside0 (Turn w _ lo [3, 114]) := ⟨(Turn.new_then (hz0.out.trans hz5.out (fun _ _ h => h)) hTn.out).then_own hs4 (fun j hj => by rw [hj]; omega)⟩
  go_wp2
  refine bodyPost_ret (results_cell_row rfl _ _ _ _ _ _ _ rfl bf Try.underlying56 rfl (by kernel_rfl)) rfl ?_
  exact ⟨vt, (zA, zN, zC), by first | (rw [hE.out]; done) | (rw [hE.out]; rfl) | (rw [hE.out]; simp), by rw [hE.out]; exact hBf.out, hTf.out⟩
theorem book_value (w : World) (lo g : Nat) (tA oA bA : Option Addr) (tc oc bc : Nat) (s : QS) (b : Bk) (vt vo va vb : SV) (ros : List RO) (rbs : List RB) (L : List (List RF)) (v : QV) (h : BkR w lo g tA oA bA tc oc bc s b vt vo va vb) (hok : BkOk s b) (hV : SView w tA oA bA s ros rbs L) (hn : s.texts.length ≤ 1048576) (hno : s.objs.length ≤ 1048576) (hnn : v.n ≤ 9223372036854775807) :
    Calls Try.prog 85 #[.pointer (some ⟨g, 0, none⟩), .agg #[.int .i64 v.kind, .int .i64 v.n]] w (ValPost w lo g tA oA bA tc oc bc s (numV s b v) va vb) := by
  obtain ⟨kind, n⟩ := v
  by_cases hk : kind = 4
  · exact book_value4 w lo g tA oA bA tc oc bc s b vt vo va vb kind n h hok hn hnn hk
  · cases hin : namesQ s.objs kind n with
    | false => exact book_valueN w lo g tA oA bA tc oc bc s b vt vo va vb ros rbs L kind n h hV hnn hk hin
    | true =>
      obtain ⟨k, x, e, hx⟩ := namesQ_at' hin
      subst e
      have hkt := (List.getElem?_eq_some_iff.1 hx).1
      by_cases hmem : k ∈ b.os
      · exact book_valueM w lo g tA oA bA tc oc bc s b vt vo va vb ros rbs L kind k h hok hV hno hk hin hkt hmem
      · exact book_valueA w lo g tA oA bA tc oc bc s b vt vo va vb ros rbs L kind k h hok hV hno hk hin hkt hmem
end Go.Proofs.Ytdoghjmanogelaa.K
