import Derived.Test.YtknboapnpccliaaRe
namespace Go.Proofs.Ytknboapnpccliaa.K
open Go.RowKit Go.Proofs.YtknboapnpccliaaW.PrintWords Go.Proofs.YtknboapnpccliaaW.PrintLast Go.Proofs.YtknboapnpccliaaW.PrintMore
set_option linter.unusedVariables false
set_option linter.unusedSimpArgs false
set_option maxRecDepth 100000

theorem Rd.drew {w : World} {F : Nat → Prop} {g i : Nat} {bs : List Int} {err : Int} (h : Rd w F g bs i err) : Rd w.drew F g bs i err := h.chg ((Chg.refl (fun _ => False) w).drew) (fun _ _ _ h => h)
/-- How a call ends that reads bytes into new memory. -/
def ResR (w : World) (F : Nat → Prop) (g : Nat) (bs : List Int) (r : Except Int (List Int × Nat)) (e : Ending) (w' : World) : Prop :=
  Chg (fun k => k = g) w w' ∧ match r with
    | .ok (l, j) => ∃ v, e = .returned v ∧ Kd.R (Kd.int .u8) 5 w' 0 (New (fun _ => False) w w') v l ∧ Rd w' F g bs j 0
    | .error c => e = .panicked [flt c] ∧ ∃ j, Rd w' F g bs j 0
def ResN (w : World) (F : Nat → Prop) (g : Nat) (bs : List Int) (r : List Int × Nat × Int) (e : Ending) (w' : World) : Prop :=
  ∃ v, e = .returned v ∧ Kd.R (Kd.int .u8) 5 w' 0 (New (fun _ => False) w w') v r.1 ∧ Rd w' F g bs r.2.1 r.2.2 ∧ Chg (fun k => k = g) w w'
theorem rd_raw1 (w : World) (F : Nat → Prop) (g i bn br : Nat) (tn tr : TypeId) (bs : List Int) (n : Int) (hn1 : n ≤ 9223372036854775807) (hw : Rd w F g bs i 0)
    (hn : w.heap[bn]? = some (.cells #[.int .i64 n] tn (0, 0))) (hr : w.heap[br]? = some (.cells #[.pointer (some ⟨g, 0, none⟩)] tr (0, 0))) :
    Calls Try.prog 97 #[.pointer (some ⟨bn, 0, none⟩), .pointer (some ⟨br, 0, none⟩)] w (ResR w F g bs (pRaw bs n i)) := by
  have cr : w.cell? ⟨br, 0, none⟩ = some (.pointer (some ⟨g, 0, none⟩)) := blk_cell hr 0
  have cn : w.cell? ⟨bn, 0, none⟩ = some (.int .i64 n) := blk_cell hn 0
  have hW := Aside0.mk hw
  have hb47 : bs.length ≤ 140737488355328 := by obtain ⟨_, _, _, _, _, h, _⟩ := hw; exact h
  replace hb47 := Aside0.mk hb47
  replace hn1 := Aside0.mk hn1
  clear hw hr hn
  by_cases h0 : n < 0
  · go_enter Try.func97, Try.ntmps97
    go_wp2
    refine ⟨rfl, Chg.refl _ _, ?_⟩
    rw [pRaw, if_pos h0]
    exact ⟨rfl, i, hW.out⟩
  · have h0' : 0 ≤ n := by omega
    rcases hp : pTake bs n.toNat i with c | ⟨l, j⟩
    · replace hp := Aside0.mk hp
      go_enter Try.func97, Try.ntmps97
      go_wp2_with (go_at_call 98; go_must (refine (rd_take _ F g i bs n (by omega) hn1.out hW.out).mono ?_); go_must (rintro e w1 ⟨hc1, hm⟩); go_must (rw [hp.out] at hm); go_must (obtain ⟨rfl, j1, hR1⟩ := hm); go_must (replace hc1 := Aside0.mk hc1); go_must (replace hR1 := Aside0.mk hR1))
      refine ⟨rfl, hc1.out, ?_⟩
      rw [pRaw, if_neg (by omega), hp.out]
      exact ⟨rfl, j1, hR1.out⟩
    · have hl : l.length ≤ 140737488355328 := by
        have := (pTake_le (by obtain ⟨_, _, _, _, h, _⟩ := hW.out; exact h) hp).2
        unfold pTake at hp
        split at hp
        · have := hb47.out; omega
        · cases hp
      replace hl := Aside0.mk hl
      replace hp := Aside0.mk hp
      go_enter Try.func97, Try.ntmps97
      go_wp2_with (first | (go_at_call 98; go_must (refine (rd_take _ F g i bs n (by omega) hn1.out hW.out).mono ?_); go_must (rintro e w1 ⟨hc1, hm⟩); go_must (rw [hp.out] at hm); go_must (obtain ⟨A1, cap1, rfl, hC1, hle1, hR1⟩ := hm); go_must (replace hc1 := Aside0.mk hc1); go_must (replace hR1 := Aside0.mk hR1); go_must (replace hC1 := Aside0.mk hC1); go_must (replace hle1 := Aside0.mk hle1)) | (go_at_call 95; go_must (refine (clone_bytes _ A1 l.length cap1 l hC1.out hl.out).mono ?_); go_must (rintro e w2 ⟨v2, rfl, hr2, hc2⟩); go_must (replace hr2 := Aside0.mk hr2); go_must (replace hc2 := Aside0.mk hc2)))
      go_ret
      refine ⟨hc1.out.trans hc2.out (fun _ _ h => h.elim), ?_⟩
      rw [pRaw, if_neg (by omega), hp.out]
      exact ⟨_, rfl, Kd.R_mono hr2.out (fun k hk => hk.imp id (fun h => ⟨Nat.le_trans hc1.out.size h.1, h.2⟩)), hR1.out.chg hc2.out (fun _ _ _ h => h)⟩
theorem reading_raw (w : World) (F : Nat → Prop) (g i : Nat) (bs : List Int) (err : Int) (bn br : Nat) (n : Int) (hw : Rd w F g bs i err)
    (hcall : ∀ w', Chg (fun _ => False) w w' → Rd w' F g bs i 0 → Calls Try.prog 97 #[.pointer (some ⟨bn, 0, none⟩), .pointer (some ⟨br, 0, none⟩)] w' (ResR w' F g bs (pRaw bs n i))) :
    Calls Try.prog 96 #[.pointer (some ⟨g, 0, none⟩), .func (.func 97) #[] #[.pointer (some ⟨bn, 0, none⟩), .pointer (some ⟨br, 0, none⟩)]] w (ResN w F g bs (rrun (pRaw bs n) [] i err)) := by
  have hW := Aside0.mk hw
  obtain ⟨A, c, hb0, hg, hi, hl, hby, hr0⟩ := hw
  obtain ⟨c0, c1, c2, f0, f1, f2⟩ := Rd.cells hb0
  have hgl := blk_lt hb0
  have hb := Aside0.mk hb0
  replace hcall := Aside0.mk hcall
  clear hb0 hr0 hby hg
  have hmf := mkfunc
  by_cases he : err = 0
  · have he1 : (err != 0) = false := by simpa using he
    subst he
    rcases hp : (pRaw bs n) i with cc | ⟨x, j⟩
    · replace hp := Aside0.mk hp
      go_enter_defers Try.func96, Try.ntmps96
      go_wp2_with (go_at_call 97; go_must (refine (hcall.out _ (((Chg.refl _ w).alloc _).alloc _) (hW.out.chg (((Chg.refl (fun _ => False) w).alloc _).alloc _) (fun _ _ _ h => h))).mono ?_); go_must (rintro e w1 ⟨hc1, hm⟩); go_must (rw [hp.out] at hm); go_must (obtain ⟨rfl, j1, hR1⟩ := hm); go_must (replace hc1 := Aside0.mk hc1); go_must (replace hR1 := Aside0.mk hR1))
      obtain ⟨A2, C2, hb2, hg2, hi2, hl2, hby2, hr2⟩ := hR1.out
      refine leaves_cons (f := 104) (args := #[.pointer (some ⟨w.heap.size + 1, 0, none⟩), .pointer (some ⟨w.heap.size, 0, none⟩)]) (by simp) (by simp [go_sem]) ?_
      refine (catchB w1 g (w.heap.size + 1) w.heap.size i cc 0 _ _ _ _ [] (hc1.out.blk (heap_alloc_new2 w _ _) (by show ¬ _ = _; omega)) (hc1.out.blk (heap_alloc_old2 w _ _) (by show ¬ _ = _; omega)) hb2).mono ?_
      rintro e u' w2 ⟨rfl, rfl, hc2, hb3⟩
      show ∃ v, _ ∧ _
      refine ⟨_, results_tmp rfl _ _ _, ?_⟩
      have hc02 : Chg (fun k => k = g) w w2 := (((Chg.refl (fun k => k = g) w).alloc _).alloc _ |>.trans hc1.out (fun _ _ h => h)).trans hc2 (fun _ _ h => h)
      have hr3 := R_chg hr2 hc2 (fun k hk ho e => ho.2 e)
      refine ⟨_, rfl, ?_, ?_, hc02⟩
      · rw [rrun, if_pos rfl, hp.out]; exact Kd.R_nil _ _ _ _ _
      · rw [rrun, if_pos rfl, hp.out]
        exact ⟨A2, C2, hb3, hg2, hi, hl2, hby2, hr3⟩
    · replace hp := Aside0.mk hp
      go_enter_defers Try.func96, Try.ntmps96
      go_wp2_with (go_at_call 97; go_must (refine (hcall.out _ (((Chg.refl _ w).alloc _).alloc _) (hW.out.chg (((Chg.refl (fun _ => False) w).alloc _).alloc _) (fun _ _ _ h => h))).mono ?_); go_must (rintro e w1 ⟨hc1, hm⟩); go_must (rw [hp.out] at hm); go_must (obtain ⟨v1, rfl, hv1, hR1⟩ := hm); go_must (replace hv1 := Aside0.mk hv1); go_must (replace hc1 := Aside0.mk hc1); go_must (replace hR1 := Aside0.mk hR1))
      refine leaves_cons (f := 104) (args := #[.pointer (some ⟨w.heap.size + 1, 0, none⟩), .pointer (some ⟨w.heap.size, 0, none⟩)]) (by simp) (by simp [go_sem]) ?_
      refine (idleB _ _ _).mono ?_
      rintro e u' w2 ⟨rfl, rfl, rfl⟩
      show ∃ v, _ ∧ _
      refine ⟨_, results_tmp rfl _ _ _, ?_⟩
      refine ⟨_, rfl, ?_, ?_, ((Chg.refl (fun k => k = g) w).alloc _).alloc _ |>.trans hc1.out (fun _ _ h => h)⟩
      · rw [rrun, if_pos rfl, hp.out]; exact Kd.R_mono hv1.out (fun k hk => hk.imp id (fun h => ⟨by have := h.1; simp at this; omega, h.2⟩))
      · rw [rrun, if_pos rfl, hp.out]
        exact hR1.out
  · have he1 : (err != 0) = true := by simpa using he
    replace he := Aside0.mk he
    go_enter_defers Try.func96, Try.ntmps96
    go_wp2
    show ∃ v, _ ∧ _
    refine ⟨_, results_tmp rfl _ _ _, ?_⟩
    have hc01 : Chg (fun _ => False) w (w.alloc (.cells #[.pointer (some ⟨g, 0, none⟩)] 138)) := (Chg.refl _ w).alloc _
    refine ⟨_, rfl, ?_, ?_, hc01.mono (fun _ _ h => h.elim)⟩
    · rw [rrun, if_neg he.out]; exact Kd.R_nil _ _ _ _ _
    · rw [rrun, if_neg he.out]
      exact hW.out.chg hc01 (fun _ _ _ h => h)

theorem rd_Raw (w : World) (F : Nat → Prop) (g i : Nat) (bs : List Int) (err n : Int) (hn1 : n ≤ 9223372036854775807) (hw : Rd w F g bs i err) :
    Calls Try.prog 81 #[.pointer (some ⟨g, 0, none⟩), .int .i64 n] w (ResN w F g bs (rrun (pRaw bs n) [] i err)) := by
  have hW := Aside0.mk hw
  have hgl := hw.lt
  have hmf := mkfunc
  replace hn1 := Aside0.mk hn1
  clear hw
  go_enter Try.func81, Try.ntmps81
  go_wp2_with (go_at_call 96; go_must (refine (reading_raw _ F g i bs err (w.heap.size + 1) w.heap.size n (hW.out.chg (((Chg.refl (fun _ => False) w).alloc _).alloc _) (fun _ _ _ h => h)) (fun w' hc hR => rd_raw1 w' F g i _ _ _ _ bs n hn1.out hR (hc.blk (heap_alloc_new2 w _ _) (fun h => h)) (hc.blk (heap_alloc_old2 w _ _) (fun h => h)))).mono ?_); go_must (rintro e w1 ⟨v1, rfl, hv1, hR1, hc1⟩); go_must (obtain ⟨A1, n1, cap1, rfl⟩ := R_sl hv1); go_must (replace hv1 := Aside0.mk hv1); go_must (replace hc1 := Aside0.mk hc1); go_must (replace hR1 := Aside0.mk hR1))
  go_ret
  exact ⟨_, rfl, Kd.R_mono hv1.out (fun k hk => hk.imp id (fun h => ⟨by have := h.1; simp at this; omega, h.2⟩)), hR1.out, (((Chg.refl (fun k => k = g) w).alloc _).alloc _).trans hc1.out (fun _ _ h => h)⟩
end Go.Proofs.Ytknboapnpccliaa.K
