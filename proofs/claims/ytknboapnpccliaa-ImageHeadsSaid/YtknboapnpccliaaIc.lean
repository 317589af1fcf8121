import Derived.Test.YtknboapnpccliaaIb
import Derived.IntWalk
import Derived.BigQuiet
namespace Go.Proofs.Ytknboapnpccliaa.K
open Go.RowKit Go.Proofs.YtknboapnpccliaaW.PrintWords Go.Proofs.YtknboapnpccliaaW.PrintLast Go.Proofs.YtknboapnpccliaaW.PrintMore
set_option linter.unusedVariables false
set_option linter.unusedSimpArgs false
set_option maxRecDepth 100000

theorem raw_ok {bs : List Int} {n i : Nat} (h : n ≤ bs.length - i) : rrun (pRaw bs (n : Int)) [] i 0 = ((bs.drop i).take n, i + n, 0) := by
  have hp : pRaw bs (n : Int) i = .ok ((bs.drop i).take n, i + n) := by unfold pRaw pTake; rw [if_neg (by omega), Int.toNat_natCast, if_pos h]
  unfold rrun
  rw [if_pos rfl, hp]
theorem raw_short {bs : List Int} {n i : Nat} (h : ¬ n ≤ bs.length - i) : rrun (pRaw bs (n : Int)) [] i 0 = ([], i, 2) := by
  have hp : pRaw bs (n : Int) i = .error 2 := by unfold pRaw pTake; rw [if_neg (by omega), Int.toNat_natCast, if_neg h]
  unfold rrun
  rw [if_pos rfl, hp]
theorem bytesOf_strOfNumsH {l : List Int} (h : ∀ c ∈ l, 0 ≤ c ∧ c < 256) : bytesOf (strOfNums l) = l := by
  rw [bytesOf, strOfNums]
  simp only [List.map_map]
  conv => rhs; rw [← List.map_id l]
  apply List.map_congr_left
  intro c hc
  obtain ⟨h0, h1⟩ := h c hc
  simp only [Function.comp, id]
  rw [UInt8.toNat_ofNat']
  omega
theorem mark_str {l : List Int} (hb : ∀ c ∈ l, 0 ≤ c ∧ c < 256) (h : l ≠ [80, 84, 73, 1]) : ((strOfNums l).toList == [80, 84, 73, 1]) = false := by
  rw [beq_eq_false_iff_ne]
  intro e
  apply h
  rw [← bytesOf_strOfNumsH hb]
  have e2 : (strOfNums l) = ⟨#[80, 84, 73, 1]⟩ := by
    rw [ByteArray.toList_eq] at e
    exact ByteArray.ext (Array.toList_inj.1 e)
  rw [e2]
  decide +kernel
theorem range_u8 {w : World} {g n : Nat} {l : List Int} (h : Kd.C (Kd.int .u8) w (some ⟨g, 0, none⟩) n l) : w.rangeAt g 0 (nums .u8 l) := by
  intro j v hv
  have hj : j < l.length := by have := (List.getElem?_eq_some_iff.1 hv).1; simpa [nums] using this
  obtain ⟨ad, e1, hc⟩ := byte_at h j (by have := h.1; omega)
  injection e1 with e1
  subst e1
  rw [add_plain] at hc
  rw [Nat.zero_add, hc]
  simp only [nums, List.getElem?_map, List.getElem?_eq_getElem hj, Option.map_some, Option.some.injEq] at hv
  rw [← hv, List.getD_eq_getElem?_getD, List.getElem?_eq_getElem hj]
  rfl
theorem run_arrayAt32 (w : World) (A : Option Addr) (c : Nat) : (Instr.arrayAt 75 (.slice A 32 c)).run Try.prog w = .ok (.pointer A) w := by
  simp [Instr.arrayAt, run_underlying Try.underlying75]
theorem code_Head (w : World) (A : Option Addr) (n cap : Nat) (bs : List Int) (hC : Kd.C (Kd.int .u8) w A n bs) (hby : ∀ c ∈ bs, 0 ≤ c ∧ c < 256) (hn : bs.length ≤ 140737488355328) :
    Calls Try.prog 36 #[.slice A n cap] w fun e w' => e = .returned (.tuple #[.agg (nums .u8 (headP bs).1).toArray, .int .i64 (headP bs).2]) ∧ Chg (fun _ => False) w w' := by
  have e0 := hC.1
  subst e0
  have hCA := Aside0.mk hC
  have hbyA := Aside0.mk hby
  clear hC hby
  by_cases h4 : bs.length < 4
  · have hE : Aside0 (headP bs = (List.replicate 32 0, 2)) := ⟨by unfold headP markP; rw [if_pos h4]; rfl⟩
    have ha : Aside0 (rrun (pRaw bs 4) [] 0 0 = ([], 0, 2)) := ⟨raw_short (n := 4) (by omega)⟩
    have hb : Aside0 (rrun (pRaw bs 32) [] 0 2 = ([], 0, 2)) := ⟨rfl⟩
    clear h4
    go_enter Try.func36, Try.ntmps36
    go_wp2_with (first | (go_at_call 80; go_must (generalize hW : World.alloc w _ = W0); go_must (have hc0 : Aside0 (Chg (fun _ => False) w W0) := ⟨by rw [← hW]; exact (Chg.refl _ w).alloc _⟩); go_must (have h2 : W0.heap[w.heap.size]? = some (.cells Z32 75 (0, 0)) := by rw [← hW]; exact heap_alloc_new w _); go_must (clear hW); go_must (refine (rd_new _ A bs.length cap bs (C_chg hCA.out (hc0.out.below (fun _ _ h => h))) (by omega) hbyA.out).mono ?_); go_must (rintro e w1 ⟨g, rfl, hgN, hR1, hc1⟩); go_must (have hgw : w.heap.size < g := by have := blk_lt h2; omega); go_must (replace h2 := Aside0.mk (hc1.blk h2 (fun h => h))); go_must (replace hR1 := Aside0.mk hR1); go_must (replace hc1 := Aside0.mk (hc0.out.trans hc1 (fun _ _ h => h))); go_must (clear hc0 hgN)) | (go_at_call 81; refine (rd_Raw _ _ g 0 bs 0 4 (by decide) hR1.out).mono ?_; go_must (rintro e w2 ⟨v2, rfl, hr2, hR2, hc2⟩); go_must (rw [ha.out] at hR2 hr2); go_must (obtain ⟨A2, n2, cap2, rfl⟩ := R_sl hr2); go_must (clear hr2); go_must (have h22 := Aside0.mk (hc2.blk h2.out (by omega))); go_must (replace hR2 := Aside0.mk hR2); go_must (have hd2 := Aside0.mk (hc1.out.trans (T := fun k => k = g) hc2 (fun k hk h => by omega))); go_must (clear hR1)) | (go_at_call 81; refine (rd_Raw _ _ g 0 bs 2 32 (by decide) hR2.out).mono ?_; go_must (rintro e w3 ⟨v3, rfl, hr3, hR3, hc3⟩); go_must (rw [hb.out] at hR3 hr3); go_must (obtain ⟨A3, n3, cap3, rfl⟩ := R_sl hr3); go_must (clear hr3); go_must (have h23 := Aside0.mk (hc3.blk h22.out (by omega))); go_must (replace hR3 := Aside0.mk hR3); go_must (have hd3 := Aside0.mk (hd2.out.trans (T := fun k => k = g) hc3 (fun k hk h => by omega))); go_must (clear hR2)) | (first | (go_at_call 82; refine (rd_Err _ _ g 0 bs 2 hR2.out).mono ?_; go_must (rintro e w9 ⟨rfl, rfl⟩)) | (go_at_call 82; refine (rd_Err _ _ g 0 bs 2 hR3.out).mono ?_; go_must (rintro e w9 ⟨rfl, rfl⟩))) | (refine wpList_store_row rfl _ _ _ (by rfl) w.heap.size Z32 (by rfl) (by rfl) 75 Z32 h23.out (by kernel_rfl) rfl (nums_one _) ?_))
    have h5 := setRow_heap _ _ _ Z32 _ _ h23.out
    (try simp only [Exit.inBlock, Exit.then])
    refine bodyPost_ret (results_cellH rfl _ _ _ _ rfl _ (run_loadVar_row _ _ _ _ _ _ _ h5 Try.underlying75 rfl (by kernel_rfl))) rfl ?_
    rw [hE.out]
    exact ⟨rfl, hd3.out.trans (chg_setRow _ _ _) (fun k hk h => by omega)⟩
  · by_cases hmk : bs.take 4 = [80, 84, 73, 1]
    · by_cases h36 : bs.length < 36
      · have hE : Aside0 (headP bs = (List.replicate 32 0, 2)) := ⟨by unfold headP markP; rw [if_neg h4, if_pos hmk, if_neg (by decide), if_pos h36]⟩
        have ha : Aside0 (rrun (pRaw bs 4) [] 0 0 = ([80, 84, 73, 1], 4, 0)) := ⟨by rw [← hmk]; exact raw_ok (n := 4) (i := 0) (by omega)⟩
        have hb : Aside0 (rrun (pRaw bs 32) [] 4 0 = ([], 4, 2)) := ⟨raw_short (n := 32) (i := 4) (by omega)⟩
        have hs : strOfNums [80, 84, 73, 1] = ⟨#[80, 84, 73, 1]⟩ := by decide +kernel
        clear h4 hmk h36
        go_enter Try.func36, Try.ntmps36
        go_wp2_with (first | (go_at_call 80; go_must (generalize hW : World.alloc w _ = W0); go_must (have hc0 : Aside0 (Chg (fun _ => False) w W0) := ⟨by rw [← hW]; exact (Chg.refl _ w).alloc _⟩); go_must (have h2 : W0.heap[w.heap.size]? = some (.cells Z32 75 (0, 0)) := by rw [← hW]; exact heap_alloc_new w _); go_must (clear hW); go_must (refine (rd_new _ A bs.length cap bs (C_chg hCA.out (hc0.out.below (fun _ _ h => h))) (by omega) hbyA.out).mono ?_); go_must (rintro e w1 ⟨g, rfl, hgN, hR1, hc1⟩); go_must (have hgw : w.heap.size < g := by have := blk_lt h2; omega); go_must (replace h2 := Aside0.mk (hc1.blk h2 (fun h => h))); go_must (replace hR1 := Aside0.mk hR1); go_must (replace hc1 := Aside0.mk (hc0.out.trans hc1 (fun _ _ h => h))); go_must (clear hc0 hgN)) | (go_at_call 81; refine (rd_Raw _ _ g 0 bs 0 4 (by decide) hR1.out).mono ?_; go_must (rintro e w2 ⟨v2, rfl, hr2, hR2, hc2⟩); go_must (rw [ha.out] at hR2 hr2); go_must (obtain ⟨A2, n2, cap2, rfl⟩ := R_sl hr2); go_must (obtain ⟨q2, _, qC2⟩ := Kd.R_reads' hr2); go_must (rw [← q2] at qC2); go_must (have hcv2 := Kd.C_string (P := Try.prog) (c := cap2) Try.underlying73 Try.underlying5 Try.underlying9 qC2); go_must (clear hr2 qC2 q2); go_must (have h22 := Aside0.mk (hc2.blk h2.out (by omega))); go_must (replace hR2 := Aside0.mk hR2); go_must (have hd2 := Aside0.mk (hc1.out.trans (T := fun k => k = g) hc2 (fun k hk h => by omega))); go_must (clear hR1)) | (go_at_call 81; refine (rd_Raw _ _ g 4 bs 0 32 (by decide) hR2.out).mono ?_; go_must (rintro e w3 ⟨v3, rfl, hr3, hR3, hc3⟩); go_must (rw [hb.out] at hR3 hr3); go_must (obtain ⟨A3, n3, cap3, rfl⟩ := R_sl hr3); go_must (clear hr3); go_must (have h23 := Aside0.mk (hc3.blk h22.out (by omega))); go_must (replace hR3 := Aside0.mk hR3); go_must (have hd3 := Aside0.mk (hd2.out.trans (T := fun k => k = g) hc3 (fun k hk h => by omega))); go_must (clear hR2)) | (first | (go_at_call 82; refine (rd_Err _ _ g 4 bs 0 hR2.out).mono ?_; go_must (rintro e w9 ⟨rfl, rfl⟩)) | (go_at_call 82; refine (rd_Err _ _ g 4 bs 2 hR3.out).mono ?_; go_must (rintro e w9 ⟨rfl, rfl⟩))) | (refine wpList_store_row rfl _ _ _ (by rfl) w.heap.size Z32 (by rfl) (by rfl) 75 Z32 h23.out (by kernel_rfl) rfl (nums_one _) ?_))
        have h5 := setRow_heap _ _ _ Z32 _ _ h23.out
        (try simp only [Exit.inBlock, Exit.then])
        refine bodyPost_ret (results_cellH rfl _ _ _ _ rfl _ (run_loadVar_row _ _ _ _ _ _ _ h5 Try.underlying75 rfl (by kernel_rfl))) rfl ?_
        rw [hE.out]
        exact ⟨rfl, hd3.out.trans (chg_setRow _ _ _) (fun k hk h => by omega)⟩
      · obtain ⟨L, hL⟩ : ∃ L, L = (bs.drop 4).take 32 := ⟨_, rfl⟩
        have hL32 : L.length = 32 := by rw [hL]; simp; omega
        have hE : Aside0 (headP bs = (L, 0)) := ⟨by unfold headP markP; rw [if_neg h4, if_pos hmk, if_neg (by decide), if_neg h36, hL]⟩
        have ha : Aside0 (rrun (pRaw bs 4) [] 0 0 = ([80, 84, 73, 1], 4, 0)) := ⟨by rw [← hmk]; exact raw_ok (n := 4) (i := 0) (by omega)⟩
        have hb : Aside0 (rrun (pRaw bs 32) [] 4 0 = (L, 36, 0)) := ⟨by rw [hL]; exact raw_ok (n := 32) (i := 4) (by omega)⟩
        have hs : strOfNums [80, 84, 73, 1] = ⟨#[80, 84, 73, 1]⟩ := by decide +kernel
        have hl32 : Aside0 ((nums .u8 L).length = 32) := ⟨by simp [nums, hL32]⟩
        have hl33 : Aside0 ((nums .u8 L).toArray.size = 32) := ⟨by simp [nums, hL32]⟩
        have h1c := Aside0.mk (nums_one L)
        have hap := fun (w : World) (A : Option Addr) (c : Nat) => run_arrayAt32 w A c
        replace hL32 := Aside0.mk hL32
        clear h4 hmk h36 hL
        go_enter Try.func36, Try.ntmps36
        go_wp2_with (first | (go_at_call 80; go_must (generalize hW : World.alloc w _ = W0); go_must (have hc0 : Aside0 (Chg (fun _ => False) w W0) := ⟨by rw [← hW]; exact (Chg.refl _ w).alloc _⟩); go_must (have h2 : W0.heap[w.heap.size]? = some (.cells Z32 75 (0, 0)) := by rw [← hW]; exact heap_alloc_new w _); go_must (clear hW); go_must (refine (rd_new _ A bs.length cap bs (C_chg hCA.out (hc0.out.below (fun _ _ h => h))) (by omega) hbyA.out).mono ?_); go_must (rintro e w1 ⟨g, rfl, hgN, hR1, hc1⟩); go_must (have hgw : w.heap.size < g := by have := blk_lt h2; omega); go_must (replace h2 := Aside0.mk (hc1.blk h2 (fun h => h))); go_must (replace hR1 := Aside0.mk hR1); go_must (replace hc1 := Aside0.mk (hc0.out.trans hc1 (fun _ _ h => h))); go_must (clear hc0 hgN)) | (go_at_call 81; refine (rd_Raw _ _ g 0 bs 0 4 (by decide) hR1.out).mono ?_; go_must (rintro e w2 ⟨v2, rfl, hr2, hR2, hc2⟩); go_must (rw [ha.out] at hR2 hr2); go_must (obtain ⟨A2, n2, cap2, rfl⟩ := R_sl hr2); go_must (obtain ⟨q2, _, qC2⟩ := Kd.R_reads' hr2); go_must (rw [← q2] at qC2); go_must (have hcv2 := Kd.C_string (P := Try.prog) (c := cap2) Try.underlying73 Try.underlying5 Try.underlying9 qC2); go_must (clear hr2 qC2 q2); go_must (have h22 := Aside0.mk (hc2.blk h2.out (by omega))); go_must (replace hR2 := Aside0.mk hR2); go_must (have hd2 := Aside0.mk (hc1.out.trans (T := fun k => k = g) hc2 (fun k hk h => by omega))); go_must (clear hR1)) | (go_at_call 81; refine (rd_Raw _ _ g 4 bs 0 32 (by decide) hR2.out).mono ?_; go_must (rintro e w3 ⟨v3, rfl, hr3, hR3, hc3⟩); go_must (rw [hb.out] at hR3 hr3); go_must (obtain ⟨A3, n3, cap3, rfl⟩ := R_sl hr3); go_must (obtain ⟨g3, c3, e3, _⟩ := Kd.R_form hr3 (by rw [hL32.out]; decide)); go_must (injection e3 with e3 e4 _); go_must (rw [hL32.out] at e4); go_must (subst e3 e4); go_must (obtain ⟨q3, _, qC3⟩ := Kd.R_reads' hr3); go_must (have hrg := Aside0.mk (range_u8 qC3)); go_must (clear hr3 qC3 q3); go_must (have h23 := Aside0.mk (hc3.blk h22.out (by omega))); go_must (replace hR3 := Aside0.mk hR3); go_must (have hd3 := Aside0.mk (hd2.out.trans (T := fun k => k = g) hc3 (fun k hk h => by omega))); go_must (clear hR2)) | (first | (go_at_call 82; refine (rd_Err _ _ g 4 bs 0 hR2.out).mono ?_; go_must (rintro e w9 ⟨rfl, rfl⟩)) | (go_at_call 82; refine (rd_Err _ _ g 36 bs 0 hR3.out).mono ?_; go_must (rintro e w9 ⟨rfl, rfl⟩))) | (refine wpList_load_mid rfl _ _ (by rfl) g3 0 (by rfl) (nums .u8 L) _ hrg.out Try.underlying75 rfl (by rw [hl32.out]; kernel_rfl) ?_; refine wpList_store_row rfl _ _ _ (by rfl) w.heap.size (nums .u8 L).toArray (by rfl) (by rfl) 75 Z32 h23.out (by rw [hl33.out]; kernel_rfl) (by rw [hl33.out]; rfl) h1c.out ?_))
        have h5 := setRow_heap _ _ _ (nums .u8 L).toArray _ _ h23.out
        (try simp only [Exit.inBlock, Exit.then])
        refine bodyPost_ret (results_cellH rfl _ _ _ _ rfl _ (run_loadVar_row _ _ _ _ _ _ _ h5 Try.underlying75 rfl (by rw [hl33.out]; kernel_rfl))) rfl ?_
        rw [hE.out]
        exact ⟨rfl, hd3.out.trans (chg_setRow _ _ _) (fun k hk h => by omega)⟩
    · have hE : Aside0 (headP bs = (List.replicate 32 0, 4)) := ⟨by unfold headP markP; rw [if_neg h4, if_neg hmk, if_pos (by decide)]⟩
      have ha : Aside0 (rrun (pRaw bs 4) [] 0 0 = (bs.take 4, 4, 0)) := ⟨raw_ok (n := 4) (i := 0) (by omega)⟩
      have hs := mark_str (fun c hc => hbyA.out c (List.mem_of_mem_take hc)) hmk
      generalize bs.take 4 = l4 at ha hs
      clear h4 hmk
      go_enter Try.func36, Try.ntmps36
      go_wp2_with (first | (go_at_call 80; go_must (generalize hW : World.alloc w _ = W0); go_must (have hc0 : Aside0 (Chg (fun _ => False) w W0) := ⟨by rw [← hW]; exact (Chg.refl _ w).alloc _⟩); go_must (have h2 : W0.heap[w.heap.size]? = some (.cells Z32 75 (0, 0)) := by rw [← hW]; exact heap_alloc_new w _); go_must (clear hW); go_must (refine (rd_new _ A bs.length cap bs (C_chg hCA.out (hc0.out.below (fun _ _ h => h))) (by omega) hbyA.out).mono ?_); go_must (rintro e w1 ⟨g, rfl, hgN, hR1, hc1⟩); go_must (have hgw : w.heap.size < g := by have := blk_lt h2; omega); go_must (replace h2 := Aside0.mk (hc1.blk h2 (fun h => h))); go_must (replace hR1 := Aside0.mk hR1); go_must (replace hc1 := Aside0.mk (hc0.out.trans hc1 (fun _ _ h => h))); go_must (clear hc0 hgN)) | (go_at_call 81; refine (rd_Raw _ _ g 0 bs 0 4 (by decide) hR1.out).mono ?_; go_must (rintro e w2 ⟨v2, rfl, hr2, hR2, hc2⟩); go_must (rw [ha.out] at hR2 hr2); go_must (obtain ⟨A2, n2, cap2, rfl⟩ := R_sl hr2); go_must (obtain ⟨q2, _, qC2⟩ := Kd.R_reads' hr2); go_must (rw [← q2] at qC2); go_must (have hcv2 := Kd.C_string (P := Try.prog) (c := cap2) Try.underlying73 Try.underlying5 Try.underlying9 qC2); go_must (clear hr2 qC2 q2); go_must (have h22 := Aside0.mk (hc2.blk h2.out (by omega))); go_must (replace hR2 := Aside0.mk hR2); go_must (have hd2 := Aside0.mk (hc1.out.trans (T := fun k => k = g) hc2 (fun k hk h => by omega))); go_must (clear hR1)) | (go_at_call 82; refine (rd_Err _ _ g 4 bs 0 hR2.out).mono ?_; go_must (rintro e w9 ⟨rfl, rfl⟩)) | (refine wpList_store_row rfl _ _ _ (by rfl) w.heap.size Z32 (by rfl) (by rfl) 75 Z32 h22.out (by kernel_rfl) rfl (nums_one _) ?_))
      have h5 := setRow_heap _ _ _ Z32 _ _ h22.out
      (try simp only [Exit.inBlock, Exit.then])
      refine bodyPost_ret (results_cellH rfl _ _ _ _ rfl _ (run_loadVar_row _ _ _ _ _ _ _ h5 Try.underlying75 rfl (by kernel_rfl))) rfl ?_
      rw [hE.out]
      exact ⟨rfl, hd2.out.trans (chg_setRow _ _ _) (fun k hk h => by omega)⟩

end Go.Proofs.Ytknboapnpccliaa.K
