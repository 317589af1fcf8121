import Derived.Test.YtbheebcjbolboaaRe
namespace Go.Proofs.Ytbheebcjbolboaa.K
open Go.RowKit Go.Proofs.YtbheebcjbolboaaW.PrintWords Go.Proofs.YtbheebcjbolboaaW.PrintLast Go.Proofs.YtbheebcjbolboaaW.PrintMore
set_option linter.unusedVariables false
set_option linter.unusedSimpArgs false
set_option maxRecDepth 100000

theorem Rd.drew {w : World} {F : Nat → Prop} {g i : Nat} {bs : List Int} {err : Int} (h : Rd w F g bs i err) : Rd w.drew F g bs i err := h.chg ((Chg.refl (fun _ => False) w).drew) (fun _ _ _ h => h)
/-- How a call ends that reads bytes into new memory. -/
def ResR (w : World) (F : Nat → Prop) (g : Nat) (bs : List Int) (r : Except Int (List Int × Nat)) (e : Ending) (w' : World) : Prop :=
  Chg (fun k => k = g) w w' ∧ match r with
    | .ok (l, j) => ∃ v, e = .returned v ∧ Kd.R (Kd.int .u8) 5 w' 0 (New (fun _ => False) w w') v l ∧ Rd w' F g bs j 0
    | .error c => e = .panicked [flt c] ∧ ∃ j, Rd w' F g bs j 0
def ResN (w : World) (F : Nat → Prop) (g : Nat) (bs : List Int) (r : List Int × Nat × Int) (e : Ending) (w' : World) : Prop :=
  ∃ v, e = .returned v ∧ Kd.R (Kd.int .u8) 5 w' 0 (New (fun _ => False) w w') v r.1 ∧ Rd w' F g bs r.2.1 r.2.2 ∧ Chg (fun k => k = g) w w'
theorem reading_text (w : World) (F : Nat → Prop) (g i : Nat) (bs : List Int) (err : Int) (br bm : Nat) (most : Int) (hw : Rd w F g bs i err)
    (hcall : ∀ w', Chg (fun _ => False) w w' → Rd w' F g bs i 0 → Calls Try.prog 62 #[.pointer (some ⟨br, 0, none⟩), .pointer (some ⟨bm, 0, none⟩)] w' (Res (fun l => .string (strOfNums l)) w' F g bs (pText bs most i))) :
    Calls Try.prog 61 #[.pointer (some ⟨g, 0, none⟩), .func (.func 62) #[] #[.pointer (some ⟨br, 0, none⟩), .pointer (some ⟨bm, 0, none⟩)]] w (ResM (fun l => .string (strOfNums l)) w F g bs (rrun (pText bs most) [] i err)) := by
  have hW := Aside0.mk hw
  obtain ⟨A, c, hb0, hg, hi, hl, hby, hr0⟩ := hw
  obtain ⟨c0, c1, c2, f0, f1, f2⟩ := Rd.cells hb0
  have hgl := blk_lt hb0
  have hb := Aside0.mk hb0
  replace hcall := Aside0.mk hcall
  clear hb0 hr0 hby hg
  have hmf := mkfunc
  by_cases he : err = 0
  · have he1 : (err != 0) = false := by simpa using he
    subst he
    rcases hp : (pText bs most) i with cc | ⟨x, j⟩
    · replace hp := Aside0.mk hp
      go_enter_defers Try.func61, Try.ntmps61
      go_wp2_with (go_at_call 62; go_must (refine (hcall.out _ (((Chg.refl _ w).alloc _).alloc _) (hW.out.chg (((Chg.refl (fun _ => False) w).alloc _).alloc _) (fun _ _ _ h => h))).mono ?_); go_must (rintro e w1 ⟨hc1, hm⟩); go_must (rw [hp.out] at hm); go_must (obtain ⟨rfl, j1, hR1⟩ := hm); go_must (replace hc1 := Aside0.mk hc1); go_must (replace hR1 := Aside0.mk hR1))
      obtain ⟨A2, C2, hb2, hg2, hi2, hl2, hby2, hr2⟩ := hR1.out
      refine leaves_cons (f := 77) (args := #[.pointer (some ⟨w.heap.size + 1, 0, none⟩), .pointer (some ⟨w.heap.size, 0, none⟩)]) (by simp) (by simp [go_sem]) ?_
      refine (catchS w1 g (w.heap.size + 1) w.heap.size i cc 0 _ _ _ _ [] (hc1.out.blk (heap_alloc_new2 w _ _) (by show ¬ _ = _; omega)) (hc1.out.blk (heap_alloc_old2 w _ _) (by show ¬ _ = _; omega)) hb2).mono ?_
      rintro e u' w2 ⟨rfl, rfl, hc2, hb3⟩
      show ∃ v, _ ∧ _
      refine ⟨_, results_tmp rfl _ _ _, ?_⟩
      have hc02 : Chg (fun k => k = g) w w2 := (((Chg.refl (fun k => k = g) w).alloc _).alloc _ |>.trans hc1.out (fun _ _ h => h)).trans hc2 (fun _ _ h => h)
      have hr3 := R_chg hr2 hc2 (fun k hk ho e => ho.2 e)
      refine ⟨?_, ?_, hc02⟩
      · rw [rrun, if_pos rfl, hp.out]; rfl
      · rw [rrun, if_pos rfl, hp.out]
        exact ⟨A2, C2, hb3, hg2, hi, hl2, hby2, hr3⟩
    · replace hp := Aside0.mk hp
      go_enter_defers Try.func61, Try.ntmps61
      go_wp2_with (go_at_call 62; go_must (refine (hcall.out _ (((Chg.refl _ w).alloc _).alloc _) (hW.out.chg (((Chg.refl (fun _ => False) w).alloc _).alloc _) (fun _ _ _ h => h))).mono ?_); go_must (rintro e w1 ⟨hc1, hm⟩); go_must (rw [hp.out] at hm); go_must (obtain ⟨rfl, hR1⟩ := hm); go_must (replace hc1 := Aside0.mk hc1); go_must (replace hR1 := Aside0.mk hR1))
      refine leaves_cons (f := 77) (args := #[.pointer (some ⟨w.heap.size + 1, 0, none⟩), .pointer (some ⟨w.heap.size, 0, none⟩)]) (by simp) (by simp [go_sem]) ?_
      refine (idleS _ _ _).mono ?_
      rintro e u' w2 ⟨rfl, rfl, rfl⟩
      show ∃ v, _ ∧ _
      refine ⟨_, results_tmp rfl _ _ _, ?_⟩
      refine ⟨?_, ?_, ((Chg.refl (fun k => k = g) w).alloc _).alloc _ |>.trans hc1.out (fun _ _ h => h)⟩
      · rw [rrun, if_pos rfl, hp.out]; rfl
      · rw [rrun, if_pos rfl, hp.out]
        exact hR1.out
  · have he1 : (err != 0) = true := by simpa using he
    replace he := Aside0.mk he
    go_enter_defers Try.func61, Try.ntmps61
    go_wp2
    show ∃ v, _ ∧ _
    refine ⟨_, results_tmp rfl _ _ _, ?_⟩
    have hc01 : Chg (fun _ => False) w (w.alloc (.cells #[.pointer (some ⟨g, 0, none⟩)] 33)) := (Chg.refl _ w).alloc _
    refine ⟨?_, ?_, hc01.mono (fun _ _ h => h.elim)⟩
    · rw [rrun, if_neg he.out]; rfl
    · rw [rrun, if_neg he.out]
      exact hW.out.chg hc01 (fun _ _ _ h => h)

theorem rd_raw1 (w : World) (F : Nat → Prop) (g i bn br : Nat) (tn tr : TypeId) (bs : List Int) (n : Int) (hn1 : n ≤ 9223372036854775807) (hw : Rd w F g bs i 0)
    (hn : w.heap[bn]? = some (.cells #[.int .i64 n] tn (0, 0))) (hr : w.heap[br]? = some (.cells #[.pointer (some ⟨g, 0, none⟩)] tr (0, 0))) :
    Calls Try.prog 59 #[.pointer (some ⟨bn, 0, none⟩), .pointer (some ⟨br, 0, none⟩)] w (ResR w F g bs (pRaw bs n i)) := by
  have cr : w.cell? ⟨br, 0, none⟩ = some (.pointer (some ⟨g, 0, none⟩)) := blk_cell hr 0
  have cn : w.cell? ⟨bn, 0, none⟩ = some (.int .i64 n) := blk_cell hn 0
  have hW := Aside0.mk hw
  have hb47 : bs.length ≤ 140737488355328 := by obtain ⟨_, _, _, _, _, h, _⟩ := hw; exact h
  replace hb47 := Aside0.mk hb47
  replace hn1 := Aside0.mk hn1
  clear hw hr hn
  by_cases h0 : n < 0
  · go_enter Try.func59, Try.ntmps59
    go_wp2
    refine ⟨rfl, Chg.refl _ _, ?_⟩
    rw [pRaw, if_pos h0]
    exact ⟨rfl, i, hW.out⟩
  · have h0' : 0 ≤ n := by omega
    rcases hp : pTake bs n.toNat i with c | ⟨l, j⟩
    · replace hp := Aside0.mk hp
      go_enter Try.func59, Try.ntmps59
      go_wp2_with (go_at_call 60; go_must (refine (rd_take _ F g i bs n (by omega) hn1.out hW.out).mono ?_); go_must (rintro e w1 ⟨hc1, hm⟩); go_must (rw [hp.out] at hm); go_must (obtain ⟨rfl, j1, hR1⟩ := hm); go_must (replace hc1 := Aside0.mk hc1); go_must (replace hR1 := Aside0.mk hR1))
      refine ⟨rfl, hc1.out, ?_⟩
      rw [pRaw, if_neg (by omega), hp.out]
      exact ⟨rfl, j1, hR1.out⟩
    · have hl : l.length ≤ 140737488355328 := by
        have := (pTake_le (by obtain ⟨_, _, _, _, h, _⟩ := hW.out; exact h) hp).2
        unfold pTake at hp
        split at hp
        · have := hb47.out; omega
        · cases hp
      replace hl := Aside0.mk hl
      replace hp := Aside0.mk hp
      go_enter Try.func59, Try.ntmps59
      go_wp2_with (first | (go_at_call 60; go_must (refine (rd_take _ F g i bs n (by omega) hn1.out hW.out).mono ?_); go_must (rintro e w1 ⟨hc1, hm⟩); go_must (rw [hp.out] at hm); go_must (obtain ⟨A1, cap1, rfl, hC1, hle1, hR1⟩ := hm); go_must (replace hc1 := Aside0.mk hc1); go_must (replace hR1 := Aside0.mk hR1); go_must (replace hC1 := Aside0.mk hC1); go_must (replace hle1 := Aside0.mk hle1)) | (go_at_call 57; go_must (refine (clone_bytes _ A1 l.length cap1 l hC1.out hl.out).mono ?_); go_must (rintro e w2 ⟨v2, rfl, hr2, hc2⟩); go_must (replace hr2 := Aside0.mk hr2); go_must (replace hc2 := Aside0.mk hc2)))
      go_ret
      refine ⟨hc1.out.trans hc2.out (fun _ _ h => h.elim), ?_⟩
      rw [pRaw, if_neg (by omega), hp.out]
      exact ⟨_, rfl, Kd.R_mono hr2.out (fun k hk => hk.imp id (fun h => ⟨Nat.le_trans hc1.out.size h.1, h.2⟩)), hR1.out.chg hc2.out (fun _ _ _ h => h)⟩
set_option maxHeartbeats 2000000 in
theorem rd_text1 (w : World) (F : Nat → Prop) (g i br bm : Nat) (tr tm : TypeId) (bs : List Int) (most : Int) (hm0 : -9223372036854775808 ≤ most) (hm1 : most ≤ 9223372036854775807) (hw : Rd w F g bs i 0)
    (hr : w.heap[br]? = some (.cells #[.pointer (some ⟨g, 0, none⟩)] tr (0, 0))) (hm : w.heap[bm]? = some (.cells #[.int .i64 most] tm (0, 0))) (hbr : br ≠ g) (hbm : bm ≠ g) :
    Calls Try.prog 62 #[.pointer (some ⟨br, 0, none⟩), .pointer (some ⟨bm, 0, none⟩)] w (Res (fun l => .string (strOfNums l)) w F g bs (pText bs most i)) := by
  have cr : w.cell? ⟨br, 0, none⟩ = some (.pointer (some ⟨g, 0, none⟩)) := blk_cell hr 0
  have cm : w.cell? ⟨bm, 0, none⟩ = some (.int .i64 most) := blk_cell hm 0
  have hW := Aside0.mk hw
  have hby : ∀ c ∈ bs, 0 ≤ c ∧ c < 256 := by obtain ⟨_, _, _, _, _, _, h, _⟩ := hw; exact h
  replace hby := Aside0.mk hby
  replace hm0 := Aside0.mk hm0
  replace hm1 := Aside0.mk hm1
  have hrA := Aside0.mk hr
  have hmA := Aside0.mk hm
  clear hw hr hm
  rcases hp : pCount bs most i with c | ⟨x, j⟩
  · replace hp := Aside0.mk hp
    go_enter Try.func62, Try.ntmps62
    go_wp2
    refine wp_region_any (by kernel_rfl) ?_
    change wpAny _ _ _ _ _ _ _ (World.drew _)
    refine wpAny_ready (rs := [0, 1, 2]) (by kernel_rfl) (by simp) ?_
    refine AllReady.cons rfl (fun K hK => ?_) ?_
    · go_simp
      refine hK _ _ ?_
      clear hK K
      refine wpAny_ready (rs := [1, 2]) (by kernel_rfl) (by simp) ?_
      refine AllReady.cons rfl (fun K hK => ?_) ?_
      · go_simp
        refine hK _ _ ?_
        clear hK K
        refine wpAny_ready (rs := [2]) (by kernel_rfl) (by simp) ?_
        refine AllReady.cons rfl (fun K hK => ?_) ?_
        · go_simp
          refine hK _ _ ?_
          clear hK K
          refine wpAny_ready (rs := [3]) (by kernel_rfl) (by simp) ?_
          refine AllReady.cons rfl (fun K hK => ?_) ?_
          · go_simp
            refine (rd_count _ F g i bs most hm0.out hm1.out hW.out.drew).mono ?_
            rintro e w1 ⟨hc1, hm⟩
            rw [hp.out] at hm
            obtain ⟨rfl, j1, hR1⟩ := hm
            replace hc1 := Aside0.mk hc1
            replace hR1 := Aside0.mk hR1
            exact ⟨rfl, Res.no (by rw [pText, hp.out]) (((Chg.refl _ w).drew).trans hc1.out (fun _ _ h => h)) hR1.out⟩
          exact AllReady.nil
        exact AllReady.nil
      refine AllReady.cons rfl (fun K hK => ?_) ?_
      · go_simp
        refine hK _ _ ?_
        clear hK K
        refine wpAny_ready (rs := [1]) (by kernel_rfl) (by simp) ?_
        refine AllReady.cons rfl (fun K hK => ?_) ?_
        · go_simp
          refine hK _ _ ?_
          clear hK K
          refine wpAny_ready (rs := [3]) (by kernel_rfl) (by simp) ?_
          refine AllReady.cons rfl (fun K hK => ?_) ?_
          · go_simp
            refine (rd_count _ F g i bs most hm0.out hm1.out hW.out.drew).mono ?_
            rintro e w1 ⟨hc1, hm⟩
            rw [hp.out] at hm
            obtain ⟨rfl, j1, hR1⟩ := hm
            replace hc1 := Aside0.mk hc1
            replace hR1 := Aside0.mk hR1
            exact ⟨rfl, Res.no (by rw [pText, hp.out]) (((Chg.refl _ w).drew).trans hc1.out (fun _ _ h => h)) hR1.out⟩
          exact AllReady.nil
        exact AllReady.nil
      exact AllReady.nil
    refine AllReady.cons rfl (fun K hK => ?_) ?_
    · go_simp
      refine hK _ _ ?_
      clear hK K
      refine wpAny_ready (rs := [0, 2]) (by kernel_rfl) (by simp) ?_
      refine AllReady.cons rfl (fun K hK => ?_) ?_
      · go_simp
        refine hK _ _ ?_
        clear hK K
        refine wpAny_ready (rs := [2]) (by kernel_rfl) (by simp) ?_
        refine AllReady.cons rfl (fun K hK => ?_) ?_
        · go_simp
          refine hK _ _ ?_
          clear hK K
          refine wpAny_ready (rs := [3]) (by kernel_rfl) (by simp) ?_
          refine AllReady.cons rfl (fun K hK => ?_) ?_
          · go_simp
            refine (rd_count _ F g i bs most hm0.out hm1.out hW.out.drew).mono ?_
            rintro e w1 ⟨hc1, hm⟩
            rw [hp.out] at hm
            obtain ⟨rfl, j1, hR1⟩ := hm
            replace hc1 := Aside0.mk hc1
            replace hR1 := Aside0.mk hR1
            exact ⟨rfl, Res.no (by rw [pText, hp.out]) (((Chg.refl _ w).drew).trans hc1.out (fun _ _ h => h)) hR1.out⟩
          exact AllReady.nil
        exact AllReady.nil
      refine AllReady.cons rfl (fun K hK => ?_) ?_
      · go_simp
        refine hK _ _ ?_
        clear hK K
        refine wpAny_ready (rs := [0, 3]) (by kernel_rfl) (by simp) ?_
        refine AllReady.cons rfl (fun K hK => ?_) ?_
        · go_simp
          refine hK _ _ ?_
          clear hK K
          refine wpAny_ready (rs := [3]) (by kernel_rfl) (by simp) ?_
          refine AllReady.cons rfl (fun K hK => ?_) ?_
          · go_simp
            refine (rd_count _ F g i bs most hm0.out hm1.out hW.out.drew).mono ?_
            rintro e w1 ⟨hc1, hm⟩
            rw [hp.out] at hm
            obtain ⟨rfl, j1, hR1⟩ := hm
            replace hc1 := Aside0.mk hc1
            replace hR1 := Aside0.mk hR1
            exact ⟨rfl, Res.no (by rw [pText, hp.out]) (((Chg.refl _ w).drew).trans hc1.out (fun _ _ h => h)) hR1.out⟩
          exact AllReady.nil
        refine AllReady.cons rfl (fun K hK => ?_) ?_
        · go_simp
          refine (rd_count _ F g i bs most hm0.out hm1.out hW.out.drew).mono ?_
          rintro e w1 ⟨hc1, hm⟩
          rw [hp.out] at hm
          obtain ⟨rfl, j1, hR1⟩ := hm
          replace hc1 := Aside0.mk hc1
          replace hR1 := Aside0.mk hR1
          exact ⟨rfl, Res.no (by rw [pText, hp.out]) (((Chg.refl _ w).drew).trans hc1.out (fun _ _ h => h)) hR1.out⟩
        exact AllReady.nil
      exact AllReady.nil
    refine AllReady.cons rfl (fun K hK => ?_) ?_
    · go_simp
      refine hK _ _ ?_
      clear hK K
      refine wpAny_ready (rs := [0, 1]) (by kernel_rfl) (by simp) ?_
      refine AllReady.cons rfl (fun K hK => ?_) ?_
      · go_simp
        refine hK _ _ ?_
        clear hK K
        refine wpAny_ready (rs := [1]) (by kernel_rfl) (by simp) ?_
        refine AllReady.cons rfl (fun K hK => ?_) ?_
        · go_simp
          refine hK _ _ ?_
          clear hK K
          refine wpAny_ready (rs := [3]) (by kernel_rfl) (by simp) ?_
          refine AllReady.cons rfl (fun K hK => ?_) ?_
          · go_simp
            refine (rd_count _ F g i bs most hm0.out hm1.out hW.out.drew).mono ?_
            rintro e w1 ⟨hc1, hm⟩
            rw [hp.out] at hm
            obtain ⟨rfl, j1, hR1⟩ := hm
            replace hc1 := Aside0.mk hc1
            replace hR1 := Aside0.mk hR1
            exact ⟨rfl, Res.no (by rw [pText, hp.out]) (((Chg.refl _ w).drew).trans hc1.out (fun _ _ h => h)) hR1.out⟩
          exact AllReady.nil
        exact AllReady.nil
      refine AllReady.cons rfl (fun K hK => ?_) ?_
      · go_simp
        refine hK _ _ ?_
        clear hK K
        refine wpAny_ready (rs := [0, 3]) (by kernel_rfl) (by simp) ?_
        refine AllReady.cons rfl (fun K hK => ?_) ?_
        · go_simp
          refine hK _ _ ?_
          clear hK K
          refine wpAny_ready (rs := [3]) (by kernel_rfl) (by simp) ?_
          refine AllReady.cons rfl (fun K hK => ?_) ?_
          · go_simp
            refine (rd_count _ F g i bs most hm0.out hm1.out hW.out.drew).mono ?_
            rintro e w1 ⟨hc1, hm⟩
            rw [hp.out] at hm
            obtain ⟨rfl, j1, hR1⟩ := hm
            replace hc1 := Aside0.mk hc1
            replace hR1 := Aside0.mk hR1
            exact ⟨rfl, Res.no (by rw [pText, hp.out]) (((Chg.refl _ w).drew).trans hc1.out (fun _ _ h => h)) hR1.out⟩
          exact AllReady.nil
        refine AllReady.cons rfl (fun K hK => ?_) ?_
        · go_simp
          refine (rd_count _ F g i bs most hm0.out hm1.out hW.out.drew).mono ?_
          rintro e w1 ⟨hc1, hm⟩
          rw [hp.out] at hm
          obtain ⟨rfl, j1, hR1⟩ := hm
          replace hc1 := Aside0.mk hc1
          replace hR1 := Aside0.mk hR1
          exact ⟨rfl, Res.no (by rw [pText, hp.out]) (((Chg.refl _ w).drew).trans hc1.out (fun _ _ h => h)) hR1.out⟩
        exact AllReady.nil
      exact AllReady.nil
    exact AllReady.nil
  · obtain ⟨hx0, hx1⟩ := pNum_range hby.out (pCount_num hp).1
    have hx2 := (pCount_num hp).2
    have hx3 : x ≤ 9223372036854775807 := by have := hm1.out; omega
    replace hx3 := Aside0.mk hx3
    replace hx2 := Aside0.mk hx2
    replace hx1 := Aside0.mk hx1
    replace hp := Aside0.mk hp
    rcases hq : pTake bs x.toNat j with c | ⟨l, j2⟩
    · replace hq := Aside0.mk hq
      go_enter Try.func62, Try.ntmps62
      go_wp2
      refine wp_region_any (by kernel_rfl) ?_
      change wpAny _ _ _ _ _ _ _ (World.drew _)
      refine wpAny_ready (rs := [0, 1, 2]) (by kernel_rfl) (by simp) ?_
      refine AllReady.cons rfl (fun K hK => ?_) ?_
      · go_simp
        refine hK _ _ ?_
        clear hK K
        refine wpAny_ready (rs := [1, 2]) (by kernel_rfl) (by simp) ?_
        refine AllReady.cons rfl (fun K hK => ?_) ?_
        · go_simp
          refine hK _ _ ?_
          clear hK K
          refine wpAny_ready (rs := [2]) (by kernel_rfl) (by simp) ?_
          refine AllReady.cons rfl (fun K hK => ?_) ?_
          · go_simp
            refine hK _ _ ?_
            clear hK K
            refine wpAny_ready (rs := [3]) (by kernel_rfl) (by simp) ?_
            refine AllReady.cons rfl (fun K hK => ?_) ?_
            · go_simp
              refine (rd_count _ F g i bs most hm0.out hm1.out hW.out.drew).mono ?_
              rintro e w1 ⟨hc1, hm⟩
              rw [hp.out] at hm
              obtain ⟨rfl, hR1⟩ := hm
              have cr1 : w1.cell? ⟨br, 0, none⟩ = some (.pointer (some ⟨g, 0, none⟩)) := blk_cell (hc1.blk (g := br) hrA.out hbr) 0
              replace hc1 := Aside0.mk hc1
              replace hR1 := Aside0.mk hR1
              refine hK _ _ ?_
              clear hK K
              refine wpAny_ready (rs := [4]) (by kernel_rfl) (by simp) ?_
              refine AllReady.cons rfl (fun K hK => ?_) ?_
              · go_simp
                refine (rd_take _ F g j bs x hx0 hx3.out hR1.out).mono ?_
                rintro e w2 ⟨hc2, hm2⟩
                rw [hq.out] at hm2
                obtain ⟨rfl, j3, hR2⟩ := hm2
                replace hc2 := Aside0.mk hc2
                replace hR2 := Aside0.mk hR2
                exact ⟨rfl, Res.no (by rw [pText, hp.out]; exact hq.out) ((((Chg.refl _ w).drew).trans hc1.out (fun _ _ h => h)).trans hc2.out (fun _ _ h => h)) hR2.out⟩
              exact AllReady.nil
            exact AllReady.nil
          exact AllReady.nil
        refine AllReady.cons rfl (fun K hK => ?_) ?_
        · go_simp
          refine hK _ _ ?_
          clear hK K
          refine wpAny_ready (rs := [1]) (by kernel_rfl) (by simp) ?_
          refine AllReady.cons rfl (fun K hK => ?_) ?_
          · go_simp
            refine hK _ _ ?_
            clear hK K
            refine wpAny_ready (rs := [3]) (by kernel_rfl) (by simp) ?_
            refine AllReady.cons rfl (fun K hK => ?_) ?_
            · go_simp
              refine (rd_count _ F g i bs most hm0.out hm1.out hW.out.drew).mono ?_
              rintro e w1 ⟨hc1, hm⟩
              rw [hp.out] at hm
              obtain ⟨rfl, hR1⟩ := hm
              have cr1 : w1.cell? ⟨br, 0, none⟩ = some (.pointer (some ⟨g, 0, none⟩)) := blk_cell (hc1.blk (g := br) hrA.out hbr) 0
              replace hc1 := Aside0.mk hc1
              replace hR1 := Aside0.mk hR1
              refine hK _ _ ?_
              clear hK K
              refine wpAny_ready (rs := [4]) (by kernel_rfl) (by simp) ?_
              refine AllReady.cons rfl (fun K hK => ?_) ?_
              · go_simp
                refine (rd_take _ F g j bs x hx0 hx3.out hR1.out).mono ?_
                rintro e w2 ⟨hc2, hm2⟩
                rw [hq.out] at hm2
                obtain ⟨rfl, j3, hR2⟩ := hm2
                replace hc2 := Aside0.mk hc2
                replace hR2 := Aside0.mk hR2
                exact ⟨rfl, Res.no (by rw [pText, hp.out]; exact hq.out) ((((Chg.refl _ w).drew).trans hc1.out (fun _ _ h => h)).trans hc2.out (fun _ _ h => h)) hR2.out⟩
              exact AllReady.nil
            exact AllReady.nil
          exact AllReady.nil
        exact AllReady.nil
      refine AllReady.cons rfl (fun K hK => ?_) ?_
      · go_simp
        refine hK _ _ ?_
        clear hK K
        refine wpAny_ready (rs := [0, 2]) (by kernel_rfl) (by simp) ?_
        refine AllReady.cons rfl (fun K hK => ?_) ?_
        · go_simp
          refine hK _ _ ?_
          clear hK K
          refine wpAny_ready (rs := [2]) (by kernel_rfl) (by simp) ?_
          refine AllReady.cons rfl (fun K hK => ?_) ?_
          · go_simp
            refine hK _ _ ?_
            clear hK K
            refine wpAny_ready (rs := [3]) (by kernel_rfl) (by simp) ?_
            refine AllReady.cons rfl (fun K hK => ?_) ?_
            · go_simp
              refine (rd_count _ F g i bs most hm0.out hm1.out hW.out.drew).mono ?_
              rintro e w1 ⟨hc1, hm⟩
              rw [hp.out] at hm
              obtain ⟨rfl, hR1⟩ := hm
              have cr1 : w1.cell? ⟨br, 0, none⟩ = some (.pointer (some ⟨g, 0, none⟩)) := blk_cell (hc1.blk (g := br) hrA.out hbr) 0
              replace hc1 := Aside0.mk hc1
              replace hR1 := Aside0.mk hR1
              refine hK _ _ ?_
              clear hK K
              refine wpAny_ready (rs := [4]) (by kernel_rfl) (by simp) ?_
              refine AllReady.cons rfl (fun K hK => ?_) ?_
              · go_simp
                refine (rd_take _ F g j bs x hx0 hx3.out hR1.out).mono ?_
                rintro e w2 ⟨hc2, hm2⟩
                rw [hq.out] at hm2
                obtain ⟨rfl, j3, hR2⟩ := hm2
                replace hc2 := Aside0.mk hc2
                replace hR2 := Aside0.mk hR2
                exact ⟨rfl, Res.no (by rw [pText, hp.out]; exact hq.out) ((((Chg.refl _ w).drew).trans hc1.out (fun _ _ h => h)).trans hc2.out (fun _ _ h => h)) hR2.out⟩
              exact AllReady.nil
            exact AllReady.nil
          exact AllReady.nil
        refine AllReady.cons rfl (fun K hK => ?_) ?_
        · go_simp
          refine hK _ _ ?_
          clear hK K
          refine wpAny_ready (rs := [0, 3]) (by kernel_rfl) (by simp) ?_
          refine AllReady.cons rfl (fun K hK => ?_) ?_
          · go_simp
            refine hK _ _ ?_
            clear hK K
            refine wpAny_ready (rs := [3]) (by kernel_rfl) (by simp) ?_
            refine AllReady.cons rfl (fun K hK => ?_) ?_
            · go_simp
              refine (rd_count _ F g i bs most hm0.out hm1.out hW.out.drew).mono ?_
              rintro e w1 ⟨hc1, hm⟩
              rw [hp.out] at hm
              obtain ⟨rfl, hR1⟩ := hm
              have cr1 : w1.cell? ⟨br, 0, none⟩ = some (.pointer (some ⟨g, 0, none⟩)) := blk_cell (hc1.blk (g := br) hrA.out hbr) 0
              replace hc1 := Aside0.mk hc1
              replace hR1 := Aside0.mk hR1
              refine hK _ _ ?_
              clear hK K
              refine wpAny_ready (rs := [4]) (by kernel_rfl) (by simp) ?_
              refine AllReady.cons rfl (fun K hK => ?_) ?_
              · go_simp
                refine (rd_take _ F g j bs x hx0 hx3.out hR1.out).mono ?_
                rintro e w2 ⟨hc2, hm2⟩
                rw [hq.out] at hm2
                obtain ⟨rfl, j3, hR2⟩ := hm2
                replace hc2 := Aside0.mk hc2
                replace hR2 := Aside0.mk hR2
                exact ⟨rfl, Res.no (by rw [pText, hp.out]; exact hq.out) ((((Chg.refl _ w).drew).trans hc1.out (fun _ _ h => h)).trans hc2.out (fun _ _ h => h)) hR2.out⟩
              exact AllReady.nil
            exact AllReady.nil
          refine AllReady.cons rfl (fun K hK => ?_) ?_
          · go_simp
            refine (rd_count _ F g i bs most hm0.out hm1.out hW.out.drew).mono ?_
            rintro e w1 ⟨hc1, hm⟩
            rw [hp.out] at hm
            obtain ⟨rfl, hR1⟩ := hm
            have cr1 : w1.cell? ⟨br, 0, none⟩ = some (.pointer (some ⟨g, 0, none⟩)) := blk_cell (hc1.blk (g := br) hrA.out hbr) 0
            replace hc1 := Aside0.mk hc1
            replace hR1 := Aside0.mk hR1
            refine hK _ _ ?_
            clear hK K
            refine wpAny_ready (rs := [0]) (by kernel_rfl) (by simp) ?_
            refine AllReady.cons rfl (fun K hK => ?_) ?_
            · go_simp
              refine hK _ _ ?_
              clear hK K
              refine wpAny_ready (rs := [4]) (by kernel_rfl) (by simp) ?_
              refine AllReady.cons rfl (fun K hK => ?_) ?_
              · go_simp
                refine (rd_take _ F g j bs x hx0 hx3.out hR1.out).mono ?_
                rintro e w2 ⟨hc2, hm2⟩
                rw [hq.out] at hm2
                obtain ⟨rfl, j3, hR2⟩ := hm2
                replace hc2 := Aside0.mk hc2
                replace hR2 := Aside0.mk hR2
                exact ⟨rfl, Res.no (by rw [pText, hp.out]; exact hq.out) ((((Chg.refl _ w).drew).trans hc1.out (fun _ _ h => h)).trans hc2.out (fun _ _ h => h)) hR2.out⟩
              exact AllReady.nil
            exact AllReady.nil
          exact AllReady.nil
        exact AllReady.nil
      refine AllReady.cons rfl (fun K hK => ?_) ?_
      · go_simp
        refine hK _ _ ?_
        clear hK K
        refine wpAny_ready (rs := [0, 1]) (by kernel_rfl) (by simp) ?_
        refine AllReady.cons rfl (fun K hK => ?_) ?_
        · go_simp
          refine hK _ _ ?_
          clear hK K
          refine wpAny_ready (rs := [1]) (by kernel_rfl) (by simp) ?_
          refine AllReady.cons rfl (fun K hK => ?_) ?_
          · go_simp
            refine hK _ _ ?_
            clear hK K
            refine wpAny_ready (rs := [3]) (by kernel_rfl) (by simp) ?_
            refine AllReady.cons rfl (fun K hK => ?_) ?_
            · go_simp
              refine (rd_count _ F g i bs most hm0.out hm1.out hW.out.drew).mono ?_
              rintro e w1 ⟨hc1, hm⟩
              rw [hp.out] at hm
              obtain ⟨rfl, hR1⟩ := hm
              have cr1 : w1.cell? ⟨br, 0, none⟩ = some (.pointer (some ⟨g, 0, none⟩)) := blk_cell (hc1.blk (g := br) hrA.out hbr) 0
              replace hc1 := Aside0.mk hc1
              replace hR1 := Aside0.mk hR1
              refine hK _ _ ?_
              clear hK K
              refine wpAny_ready (rs := [4]) (by kernel_rfl) (by simp) ?_
              refine AllReady.cons rfl (fun K hK => ?_) ?_
              · go_simp
                refine (rd_take _ F g j bs x hx0 hx3.out hR1.out).mono ?_
                rintro e w2 ⟨hc2, hm2⟩
                rw [hq.out] at hm2
                obtain ⟨rfl, j3, hR2⟩ := hm2
                replace hc2 := Aside0.mk hc2
                replace hR2 := Aside0.mk hR2
                exact ⟨rfl, Res.no (by rw [pText, hp.out]; exact hq.out) ((((Chg.refl _ w).drew).trans hc1.out (fun _ _ h => h)).trans hc2.out (fun _ _ h => h)) hR2.out⟩
              exact AllReady.nil
            exact AllReady.nil
          exact AllReady.nil
        refine AllReady.cons rfl (fun K hK => ?_) ?_
        · go_simp
          refine hK _ _ ?_
          clear hK K
          refine wpAny_ready (rs := [0, 3]) (by kernel_rfl) (by simp) ?_
          refine AllReady.cons rfl (fun K hK => ?_) ?_
          · go_simp
            refine hK _ _ ?_
            clear hK K
            refine wpAny_ready (rs := [3]) (by kernel_rfl) (by simp) ?_
            refine AllReady.cons rfl (fun K hK => ?_) ?_
            · go_simp
              refine (rd_count _ F g i bs most hm0.out hm1.out hW.out.drew).mono ?_
              rintro e w1 ⟨hc1, hm⟩
              rw [hp.out] at hm
              obtain ⟨rfl, hR1⟩ := hm
              have cr1 : w1.cell? ⟨br, 0, none⟩ = some (.pointer (some ⟨g, 0, none⟩)) := blk_cell (hc1.blk (g := br) hrA.out hbr) 0
              replace hc1 := Aside0.mk hc1
              replace hR1 := Aside0.mk hR1
              refine hK _ _ ?_
              clear hK K
              refine wpAny_ready (rs := [4]) (by kernel_rfl) (by simp) ?_
              refine AllReady.cons rfl (fun K hK => ?_) ?_
              · go_simp
                refine (rd_take _ F g j bs x hx0 hx3.out hR1.out).mono ?_
                rintro e w2 ⟨hc2, hm2⟩
                rw [hq.out] at hm2
                obtain ⟨rfl, j3, hR2⟩ := hm2
                replace hc2 := Aside0.mk hc2
                replace hR2 := Aside0.mk hR2
                exact ⟨rfl, Res.no (by rw [pText, hp.out]; exact hq.out) ((((Chg.refl _ w).drew).trans hc1.out (fun _ _ h => h)).trans hc2.out (fun _ _ h => h)) hR2.out⟩
              exact AllReady.nil
            exact AllReady.nil
          refine AllReady.cons rfl (fun K hK => ?_) ?_
          · go_simp
            refine (rd_count _ F g i bs most hm0.out hm1.out hW.out.drew).mono ?_
            rintro e w1 ⟨hc1, hm⟩
            rw [hp.out] at hm
            obtain ⟨rfl, hR1⟩ := hm
            have cr1 : w1.cell? ⟨br, 0, none⟩ = some (.pointer (some ⟨g, 0, none⟩)) := blk_cell (hc1.blk (g := br) hrA.out hbr) 0
            replace hc1 := Aside0.mk hc1
            replace hR1 := Aside0.mk hR1
            refine hK _ _ ?_
            clear hK K
            refine wpAny_ready (rs := [0]) (by kernel_rfl) (by simp) ?_
            refine AllReady.cons rfl (fun K hK => ?_) ?_
            · go_simp
              refine hK _ _ ?_
              clear hK K
              refine wpAny_ready (rs := [4]) (by kernel_rfl) (by simp) ?_
              refine AllReady.cons rfl (fun K hK => ?_) ?_
              · go_simp
                refine (rd_take _ F g j bs x hx0 hx3.out hR1.out).mono ?_
                rintro e w2 ⟨hc2, hm2⟩
                rw [hq.out] at hm2
                obtain ⟨rfl, j3, hR2⟩ := hm2
                replace hc2 := Aside0.mk hc2
                replace hR2 := Aside0.mk hR2
                exact ⟨rfl, Res.no (by rw [pText, hp.out]; exact hq.out) ((((Chg.refl _ w).drew).trans hc1.out (fun _ _ h => h)).trans hc2.out (fun _ _ h => h)) hR2.out⟩
              exact AllReady.nil
            exact AllReady.nil
          exact AllReady.nil
        exact AllReady.nil
      exact AllReady.nil
    · replace hq := Aside0.mk hq
      go_enter Try.func62, Try.ntmps62
      go_wp2
      refine wp_region_any (by kernel_rfl) ?_
      change wpAny _ _ _ _ _ _ _ (World.drew _)
      refine wpAny_ready (rs := [0, 1, 2]) (by kernel_rfl) (by simp) ?_
      refine AllReady.cons rfl (fun K hK => ?_) ?_
      · go_simp
        refine hK _ _ ?_
        clear hK K
        refine wpAny_ready (rs := [1, 2]) (by kernel_rfl) (by simp) ?_
        refine AllReady.cons rfl (fun K hK => ?_) ?_
        · go_simp
          refine hK _ _ ?_
          clear hK K
          refine wpAny_ready (rs := [2]) (by kernel_rfl) (by simp) ?_
          refine AllReady.cons rfl (fun K hK => ?_) ?_
          · go_simp
            refine hK _ _ ?_
            clear hK K
            refine wpAny_ready (rs := [3]) (by kernel_rfl) (by simp) ?_
            refine AllReady.cons rfl (fun K hK => ?_) ?_
            · go_simp
              refine (rd_count _ F g i bs most hm0.out hm1.out hW.out.drew).mono ?_
              rintro e w1 ⟨hc1, hm⟩
              rw [hp.out] at hm
              obtain ⟨rfl, hR1⟩ := hm
              have cr1 : w1.cell? ⟨br, 0, none⟩ = some (.pointer (some ⟨g, 0, none⟩)) := blk_cell (hc1.blk (g := br) hrA.out hbr) 0
              replace hc1 := Aside0.mk hc1
              replace hR1 := Aside0.mk hR1
              refine hK _ _ ?_
              clear hK K
              refine wpAny_ready (rs := [4]) (by kernel_rfl) (by simp) ?_
              refine AllReady.cons rfl (fun K hK => ?_) ?_
              · go_simp
                refine (rd_take _ F g j bs x hx0 hx3.out hR1.out).mono ?_
                rintro e w2 ⟨hc2, hm2⟩
                rw [hq.out] at hm2
                obtain ⟨A2, cap2, rfl, hC2, hle2, hR2⟩ := hm2
                have hcv := Kd.C_string (P := Try.prog) (src := 25) (dst := 9) (n := l.length) (c := cap2) Try.underlying25 Try.underlying5 Try.underlying9 hC2
                replace hc2 := Aside0.mk hc2
                replace hR2 := Aside0.mk hR2
                clear hC2 hle2
                refine hK _ _ ?_
                clear hK K
                refine wpAny_ready (rs := [5]) (by kernel_rfl) (by simp) ?_
                refine AllReady.cons rfl (fun K hK => ?_) ?_
                · go_simp
                  refine hK _ _ ?_
                  clear hK K
                  refine wpAny_ready (rs := [6]) (by kernel_rfl) (by simp) ?_
                  refine AllReady.cons rfl (fun K hK => ?_) ?_
                  · go_simp
                    refine hK _ _ ?_
                    clear hK K
                    refine wpAny_done (by kernel_rfl) ?_ _
                    go_wp2
                    go_ret
                    exact Res.yes (by rw [pText, hp.out]; exact hq.out) ((((Chg.refl _ w).drew).trans hc1.out (fun _ _ h => h)).trans hc2.out (fun _ _ h => h)) hR2.out
                  exact AllReady.nil
                exact AllReady.nil
              exact AllReady.nil
            exact AllReady.nil
          exact AllReady.nil
        refine AllReady.cons rfl (fun K hK => ?_) ?_
        · go_simp
          refine hK _ _ ?_
          clear hK K
          refine wpAny_ready (rs := [1]) (by kernel_rfl) (by simp) ?_
          refine AllReady.cons rfl (fun K hK => ?_) ?_
          · go_simp
            refine hK _ _ ?_
            clear hK K
            refine wpAny_ready (rs := [3]) (by kernel_rfl) (by simp) ?_
            refine AllReady.cons rfl (fun K hK => ?_) ?_
            · go_simp
              refine (rd_count _ F g i bs most hm0.out hm1.out hW.out.drew).mono ?_
              rintro e w1 ⟨hc1, hm⟩
              rw [hp.out] at hm
              obtain ⟨rfl, hR1⟩ := hm
              have cr1 : w1.cell? ⟨br, 0, none⟩ = some (.pointer (some ⟨g, 0, none⟩)) := blk_cell (hc1.blk (g := br) hrA.out hbr) 0
              replace hc1 := Aside0.mk hc1
              replace hR1 := Aside0.mk hR1
              refine hK _ _ ?_
              clear hK K
              refine wpAny_ready (rs := [4]) (by kernel_rfl) (by simp) ?_
              refine AllReady.cons rfl (fun K hK => ?_) ?_
              · go_simp
                refine (rd_take _ F g j bs x hx0 hx3.out hR1.out).mono ?_
                rintro e w2 ⟨hc2, hm2⟩
                rw [hq.out] at hm2
                obtain ⟨A2, cap2, rfl, hC2, hle2, hR2⟩ := hm2
                have hcv := Kd.C_string (P := Try.prog) (src := 25) (dst := 9) (n := l.length) (c := cap2) Try.underlying25 Try.underlying5 Try.underlying9 hC2
                replace hc2 := Aside0.mk hc2
                replace hR2 := Aside0.mk hR2
                clear hC2 hle2
                refine hK _ _ ?_
                clear hK K
                refine wpAny_ready (rs := [5]) (by kernel_rfl) (by simp) ?_
                refine AllReady.cons rfl (fun K hK => ?_) ?_
                · go_simp
                  refine hK _ _ ?_
                  clear hK K
                  refine wpAny_ready (rs := [6]) (by kernel_rfl) (by simp) ?_
                  refine AllReady.cons rfl (fun K hK => ?_) ?_
                  · go_simp
                    refine hK _ _ ?_
                    clear hK K
                    refine wpAny_done (by kernel_rfl) ?_ _
                    go_wp2
                    go_ret
                    exact Res.yes (by rw [pText, hp.out]; exact hq.out) ((((Chg.refl _ w).drew).trans hc1.out (fun _ _ h => h)).trans hc2.out (fun _ _ h => h)) hR2.out
                  exact AllReady.nil
                exact AllReady.nil
              exact AllReady.nil
            exact AllReady.nil
          exact AllReady.nil
        exact AllReady.nil
      refine AllReady.cons rfl (fun K hK => ?_) ?_
      · go_simp
        refine hK _ _ ?_
        clear hK K
        refine wpAny_ready (rs := [0, 2]) (by kernel_rfl) (by simp) ?_
        refine AllReady.cons rfl (fun K hK => ?_) ?_
        · go_simp
          refine hK _ _ ?_
          clear hK K
          refine wpAny_ready (rs := [2]) (by kernel_rfl) (by simp) ?_
          refine AllReady.cons rfl (fun K hK => ?_) ?_
          · go_simp
            refine hK _ _ ?_
            clear hK K
            refine wpAny_ready (rs := [3]) (by kernel_rfl) (by simp) ?_
            refine AllReady.cons rfl (fun K hK => ?_) ?_
            · go_simp
              refine (rd_count _ F g i bs most hm0.out hm1.out hW.out.drew).mono ?_
              rintro e w1 ⟨hc1, hm⟩
              rw [hp.out] at hm
              obtain ⟨rfl, hR1⟩ := hm
              have cr1 : w1.cell? ⟨br, 0, none⟩ = some (.pointer (some ⟨g, 0, none⟩)) := blk_cell (hc1.blk (g := br) hrA.out hbr) 0
              replace hc1 := Aside0.mk hc1
              replace hR1 := Aside0.mk hR1
              refine hK _ _ ?_
              clear hK K
              refine wpAny_ready (rs := [4]) (by kernel_rfl) (by simp) ?_
              refine AllReady.cons rfl (fun K hK => ?_) ?_
              · go_simp
                refine (rd_take _ F g j bs x hx0 hx3.out hR1.out).mono ?_
                rintro e w2 ⟨hc2, hm2⟩
                rw [hq.out] at hm2
                obtain ⟨A2, cap2, rfl, hC2, hle2, hR2⟩ := hm2
                have hcv := Kd.C_string (P := Try.prog) (src := 25) (dst := 9) (n := l.length) (c := cap2) Try.underlying25 Try.underlying5 Try.underlying9 hC2
                replace hc2 := Aside0.mk hc2
                replace hR2 := Aside0.mk hR2
                clear hC2 hle2
                refine hK _ _ ?_
                clear hK K
                refine wpAny_ready (rs := [5]) (by kernel_rfl) (by simp) ?_
                refine AllReady.cons rfl (fun K hK => ?_) ?_
                · go_simp
                  refine hK _ _ ?_
                  clear hK K
                  refine wpAny_ready (rs := [6]) (by kernel_rfl) (by simp) ?_
                  refine AllReady.cons rfl (fun K hK => ?_) ?_
                  · go_simp
                    refine hK _ _ ?_
                    clear hK K
                    refine wpAny_done (by kernel_rfl) ?_ _
                    go_wp2
                    go_ret
                    exact Res.yes (by rw [pText, hp.out]; exact hq.out) ((((Chg.refl _ w).drew).trans hc1.out (fun _ _ h => h)).trans hc2.out (fun _ _ h => h)) hR2.out
                  exact AllReady.nil
                exact AllReady.nil
              exact AllReady.nil
            exact AllReady.nil
          exact AllReady.nil
        refine AllReady.cons rfl (fun K hK => ?_) ?_
        · go_simp
          refine hK _ _ ?_
          clear hK K
          refine wpAny_ready (rs := [0, 3]) (by kernel_rfl) (by simp) ?_
          refine AllReady.cons rfl (fun K hK => ?_) ?_
          · go_simp
            refine hK _ _ ?_
            clear hK K
            refine wpAny_ready (rs := [3]) (by kernel_rfl) (by simp) ?_
            refine AllReady.cons rfl (fun K hK => ?_) ?_
            · go_simp
              refine (rd_count _ F g i bs most hm0.out hm1.out hW.out.drew).mono ?_
              rintro e w1 ⟨hc1, hm⟩
              rw [hp.out] at hm
              obtain ⟨rfl, hR1⟩ := hm
              have cr1 : w1.cell? ⟨br, 0, none⟩ = some (.pointer (some ⟨g, 0, none⟩)) := blk_cell (hc1.blk (g := br) hrA.out hbr) 0
              replace hc1 := Aside0.mk hc1
              replace hR1 := Aside0.mk hR1
              refine hK _ _ ?_
              clear hK K
              refine wpAny_ready (rs := [4]) (by kernel_rfl) (by simp) ?_
              refine AllReady.cons rfl (fun K hK => ?_) ?_
              · go_simp
                refine (rd_take _ F g j bs x hx0 hx3.out hR1.out).mono ?_
                rintro e w2 ⟨hc2, hm2⟩
                rw [hq.out] at hm2
                obtain ⟨A2, cap2, rfl, hC2, hle2, hR2⟩ := hm2
                have hcv := Kd.C_string (P := Try.prog) (src := 25) (dst := 9) (n := l.length) (c := cap2) Try.underlying25 Try.underlying5 Try.underlying9 hC2
                replace hc2 := Aside0.mk hc2
                replace hR2 := Aside0.mk hR2
                clear hC2 hle2
                refine hK _ _ ?_
                clear hK K
                refine wpAny_ready (rs := [5]) (by kernel_rfl) (by simp) ?_
                refine AllReady.cons rfl (fun K hK => ?_) ?_
                · go_simp
                  refine hK _ _ ?_
                  clear hK K
                  refine wpAny_ready (rs := [6]) (by kernel_rfl) (by simp) ?_
                  refine AllReady.cons rfl (fun K hK => ?_) ?_
                  · go_simp
                    refine hK _ _ ?_
                    clear hK K
                    refine wpAny_done (by kernel_rfl) ?_ _
                    go_wp2
                    go_ret
                    exact Res.yes (by rw [pText, hp.out]; exact hq.out) ((((Chg.refl _ w).drew).trans hc1.out (fun _ _ h => h)).trans hc2.out (fun _ _ h => h)) hR2.out
                  exact AllReady.nil
                exact AllReady.nil
              exact AllReady.nil
            exact AllReady.nil
          refine AllReady.cons rfl (fun K hK => ?_) ?_
          · go_simp
            refine (rd_count _ F g i bs most hm0.out hm1.out hW.out.drew).mono ?_
            rintro e w1 ⟨hc1, hm⟩
            rw [hp.out] at hm
            obtain ⟨rfl, hR1⟩ := hm
            have cr1 : w1.cell? ⟨br, 0, none⟩ = some (.pointer (some ⟨g, 0, none⟩)) := blk_cell (hc1.blk (g := br) hrA.out hbr) 0
            replace hc1 := Aside0.mk hc1
            replace hR1 := Aside0.mk hR1
            refine hK _ _ ?_
            clear hK K
            refine wpAny_ready (rs := [0]) (by kernel_rfl) (by simp) ?_
            refine AllReady.cons rfl (fun K hK => ?_) ?_
            · go_simp
              refine hK _ _ ?_
              clear hK K
              refine wpAny_ready (rs := [4]) (by kernel_rfl) (by simp) ?_
              refine AllReady.cons rfl (fun K hK => ?_) ?_
              · go_simp
                refine (rd_take _ F g j bs x hx0 hx3.out hR1.out).mono ?_
                rintro e w2 ⟨hc2, hm2⟩
                rw [hq.out] at hm2
                obtain ⟨A2, cap2, rfl, hC2, hle2, hR2⟩ := hm2
                have hcv := Kd.C_string (P := Try.prog) (src := 25) (dst := 9) (n := l.length) (c := cap2) Try.underlying25 Try.underlying5 Try.underlying9 hC2
                replace hc2 := Aside0.mk hc2
                replace hR2 := Aside0.mk hR2
                clear hC2 hle2
                refine hK _ _ ?_
                clear hK K
                refine wpAny_ready (rs := [5]) (by kernel_rfl) (by simp) ?_
                refine AllReady.cons rfl (fun K hK => ?_) ?_
                · go_simp
                  refine hK _ _ ?_
                  clear hK K
                  refine wpAny_ready (rs := [6]) (by kernel_rfl) (by simp) ?_
                  refine AllReady.cons rfl (fun K hK => ?_) ?_
                  · go_simp
                    refine hK _ _ ?_
                    clear hK K
                    refine wpAny_done (by kernel_rfl) ?_ _
                    go_wp2
                    go_ret
                    exact Res.yes (by rw [pText, hp.out]; exact hq.out) ((((Chg.refl _ w).drew).trans hc1.out (fun _ _ h => h)).trans hc2.out (fun _ _ h => h)) hR2.out
                  exact AllReady.nil
                exact AllReady.nil
              exact AllReady.nil
            exact AllReady.nil
          exact AllReady.nil
        exact AllReady.nil
      refine AllReady.cons rfl (fun K hK => ?_) ?_
      · go_simp
        refine hK _ _ ?_
        clear hK K
        refine wpAny_ready (rs := [0, 1]) (by kernel_rfl) (by simp) ?_
        refine AllReady.cons rfl (fun K hK => ?_) ?_
        · go_simp
          refine hK _ _ ?_
          clear hK K
          refine wpAny_ready (rs := [1]) (by kernel_rfl) (by simp) ?_
          refine AllReady.cons rfl (fun K hK => ?_) ?_
          · go_simp
            refine hK _ _ ?_
            clear hK K
            refine wpAny_ready (rs := [3]) (by kernel_rfl) (by simp) ?_
            refine AllReady.cons rfl (fun K hK => ?_) ?_
            · go_simp
              refine (rd_count _ F g i bs most hm0.out hm1.out hW.out.drew).mono ?_
              rintro e w1 ⟨hc1, hm⟩
              rw [hp.out] at hm
              obtain ⟨rfl, hR1⟩ := hm
              have cr1 : w1.cell? ⟨br, 0, none⟩ = some (.pointer (some ⟨g, 0, none⟩)) := blk_cell (hc1.blk (g := br) hrA.out hbr) 0
              replace hc1 := Aside0.mk hc1
              replace hR1 := Aside0.mk hR1
              refine hK _ _ ?_
              clear hK K
              refine wpAny_ready (rs := [4]) (by kernel_rfl) (by simp) ?_
              refine AllReady.cons rfl (fun K hK => ?_) ?_
              · go_simp
                refine (rd_take _ F g j bs x hx0 hx3.out hR1.out).mono ?_
                rintro e w2 ⟨hc2, hm2⟩
                rw [hq.out] at hm2
                obtain ⟨A2, cap2, rfl, hC2, hle2, hR2⟩ := hm2
                have hcv := Kd.C_string (P := Try.prog) (src := 25) (dst := 9) (n := l.length) (c := cap2) Try.underlying25 Try.underlying5 Try.underlying9 hC2
                replace hc2 := Aside0.mk hc2
                replace hR2 := Aside0.mk hR2
                clear hC2 hle2
                refine hK _ _ ?_
                clear hK K
                refine wpAny_ready (rs := [5]) (by kernel_rfl) (by simp) ?_
                refine AllReady.cons rfl (fun K hK => ?_) ?_
                · go_simp
                  refine hK _ _ ?_
                  clear hK K
                  refine wpAny_ready (rs := [6]) (by kernel_rfl) (by simp) ?_
                  refine AllReady.cons rfl (fun K hK => ?_) ?_
                  · go_simp
                    refine hK _ _ ?_
                    clear hK K
                    refine wpAny_done (by kernel_rfl) ?_ _
                    go_wp2
                    go_ret
                    exact Res.yes (by rw [pText, hp.out]; exact hq.out) ((((Chg.refl _ w).drew).trans hc1.out (fun _ _ h => h)).trans hc2.out (fun _ _ h => h)) hR2.out
                  exact AllReady.nil
                exact AllReady.nil
              exact AllReady.nil
            exact AllReady.nil
          exact AllReady.nil
        refine AllReady.cons rfl (fun K hK => ?_) ?_
        · go_simp
          refine hK _ _ ?_
          clear hK K
          refine wpAny_ready (rs := [0, 3]) (by kernel_rfl) (by simp) ?_
          refine AllReady.cons rfl (fun K hK => ?_) ?_
          · go_simp
            refine hK _ _ ?_
            clear hK K
            refine wpAny_ready (rs := [3]) (by kernel_rfl) (by simp) ?_
            refine AllReady.cons rfl (fun K hK => ?_) ?_
            · go_simp
              refine (rd_count _ F g i bs most hm0.out hm1.out hW.out.drew).mono ?_
              rintro e w1 ⟨hc1, hm⟩
              rw [hp.out] at hm
              obtain ⟨rfl, hR1⟩ := hm
              have cr1 : w1.cell? ⟨br, 0, none⟩ = some (.pointer (some ⟨g, 0, none⟩)) := blk_cell (hc1.blk (g := br) hrA.out hbr) 0
              replace hc1 := Aside0.mk hc1
              replace hR1 := Aside0.mk hR1
              refine hK _ _ ?_
              clear hK K
              refine wpAny_ready (rs := [4]) (by kernel_rfl) (by simp) ?_
              refine AllReady.cons rfl (fun K hK => ?_) ?_
              · go_simp
                refine (rd_take _ F g j bs x hx0 hx3.out hR1.out).mono ?_
                rintro e w2 ⟨hc2, hm2⟩
                rw [hq.out] at hm2
                obtain ⟨A2, cap2, rfl, hC2, hle2, hR2⟩ := hm2
                have hcv := Kd.C_string (P := Try.prog) (src := 25) (dst := 9) (n := l.length) (c := cap2) Try.underlying25 Try.underlying5 Try.underlying9 hC2
                replace hc2 := Aside0.mk hc2
                replace hR2 := Aside0.mk hR2
                clear hC2 hle2
                refine hK _ _ ?_
                clear hK K
                refine wpAny_ready (rs := [5]) (by kernel_rfl) (by simp) ?_
                refine AllReady.cons rfl (fun K hK => ?_) ?_
                · go_simp
                  refine hK _ _ ?_
                  clear hK K
                  refine wpAny_ready (rs := [6]) (by kernel_rfl) (by simp) ?_
                  refine AllReady.cons rfl (fun K hK => ?_) ?_
                  · go_simp
                    refine hK _ _ ?_
                    clear hK K
                    refine wpAny_done (by kernel_rfl) ?_ _
                    go_wp2
                    go_ret
                    exact Res.yes (by rw [pText, hp.out]; exact hq.out) ((((Chg.refl _ w).drew).trans hc1.out (fun _ _ h => h)).trans hc2.out (fun _ _ h => h)) hR2.out
                  exact AllReady.nil
                exact AllReady.nil
              exact AllReady.nil
            exact AllReady.nil
          refine AllReady.cons rfl (fun K hK => ?_) ?_
          · go_simp
            refine (rd_count _ F g i bs most hm0.out hm1.out hW.out.drew).mono ?_
            rintro e w1 ⟨hc1, hm⟩
            rw [hp.out] at hm
            obtain ⟨rfl, hR1⟩ := hm
            have cr1 : w1.cell? ⟨br, 0, none⟩ = some (.pointer (some ⟨g, 0, none⟩)) := blk_cell (hc1.blk (g := br) hrA.out hbr) 0
            replace hc1 := Aside0.mk hc1
            replace hR1 := Aside0.mk hR1
            refine hK _ _ ?_
            clear hK K
            refine wpAny_ready (rs := [0]) (by kernel_rfl) (by simp) ?_
            refine AllReady.cons rfl (fun K hK => ?_) ?_
            · go_simp
              refine hK _ _ ?_
              clear hK K
              refine wpAny_ready (rs := [4]) (by kernel_rfl) (by simp) ?_
              refine AllReady.cons rfl (fun K hK => ?_) ?_
              · go_simp
                refine (rd_take _ F g j bs x hx0 hx3.out hR1.out).mono ?_
                rintro e w2 ⟨hc2, hm2⟩
                rw [hq.out] at hm2
                obtain ⟨A2, cap2, rfl, hC2, hle2, hR2⟩ := hm2
                have hcv := Kd.C_string (P := Try.prog) (src := 25) (dst := 9) (n := l.length) (c := cap2) Try.underlying25 Try.underlying5 Try.underlying9 hC2
                replace hc2 := Aside0.mk hc2
                replace hR2 := Aside0.mk hR2
                clear hC2 hle2
                refine hK _ _ ?_
                clear hK K
                refine wpAny_ready (rs := [5]) (by kernel_rfl) (by simp) ?_
                refine AllReady.cons rfl (fun K hK => ?_) ?_
                · go_simp
                  refine hK _ _ ?_
                  clear hK K
                  refine wpAny_ready (rs := [6]) (by kernel_rfl) (by simp) ?_
                  refine AllReady.cons rfl (fun K hK => ?_) ?_
                  · go_simp
                    refine hK _ _ ?_
                    clear hK K
                    refine wpAny_done (by kernel_rfl) ?_ _
                    go_wp2
                    go_ret
                    exact Res.yes (by rw [pText, hp.out]; exact hq.out) ((((Chg.refl _ w).drew).trans hc1.out (fun _ _ h => h)).trans hc2.out (fun _ _ h => h)) hR2.out
                  exact AllReady.nil
                exact AllReady.nil
              exact AllReady.nil
            exact AllReady.nil
          exact AllReady.nil
        exact AllReady.nil
      exact AllReady.nil
theorem rd_Text (w : World) (F : Nat → Prop) (g i : Nat) (bs : List Int) (err most : Int) (hm0 : -9223372036854775808 ≤ most) (hm1 : most ≤ 9223372036854775807) (hw : Rd w F g bs i err) :
    Calls Try.prog 27 #[.pointer (some ⟨g, 0, none⟩), .int .i64 most] w (ResM (fun l => .string (strOfNums l)) w F g bs (rrun (pText bs most) [] i err)) := by
  have hW := Aside0.mk hw
  have hgl := hw.lt
  have hmf := mkfunc
  replace hm0 := Aside0.mk hm0
  replace hm1 := Aside0.mk hm1
  clear hw
  go_enter Try.func27, Try.ntmps27
  go_wp2_with (go_at_call 61; go_must (refine (reading_text _ F g i bs err w.heap.size (w.heap.size + 1) most (hW.out.chg (((Chg.refl (fun _ => False) w).alloc _).alloc _) (fun _ _ _ h => h)) (fun w' hc hR => rd_text1 w' F g i _ _ _ _ bs most hm0.out hm1.out hR (hc.blk (heap_alloc_old2 w _ _) (fun h => h)) (hc.blk (heap_alloc_new2 w _ _) (fun h => h)) (by omega) (by omega))).mono ?_); go_must (rintro e w1 ⟨rfl, hR1, hc1⟩); go_must (replace hc1 := Aside0.mk hc1); go_must (replace hR1 := Aside0.mk hR1))
  go_ret
  exact ⟨rfl, hR1.out, (((Chg.refl (fun k => k = g) w).alloc _).alloc _).trans hc1.out (fun _ _ h => h)⟩
theorem rd_Word (w : World) (F : Nat → Prop) (g i : Nat) (bs : List Int) (err : Int) (hw : Rd w F g bs i err) :
    Calls Try.prog 37 #[.pointer (some ⟨g, 0, none⟩)] w (ResM (Value.int .u64) w F g bs (rrun (pWord bs) 0 i err)) := by
  have hW := Aside0.mk hw
  have hgl := hw.lt
  have hmf := mkfunc
  clear hw
  go_enter Try.func37, Try.ntmps37
  go_wp2_with (go_at_call 66; go_must (refine (reading_word _ F g i bs err w.heap.size (hW.out.chg ((Chg.refl (fun _ => False) w).alloc _) (fun _ _ _ h => h)) (fun w' hc hR => rd_word1 w' F g i _ _ bs hR (hc.blk (heap_alloc_new w _) (fun h => h)))).mono ?_); go_must (rintro e w1 ⟨rfl, hR1, hc1⟩); go_must (replace hc1 := Aside0.mk hc1); go_must (replace hR1 := Aside0.mk hR1))
  go_ret
  exact ⟨rfl, hR1.out, ((Chg.refl (fun k => k = g) w).alloc _).trans hc1.out (fun _ _ h => h)⟩

theorem reading_raw (w : World) (F : Nat → Prop) (g i : Nat) (bs : List Int) (err : Int) (bn br : Nat) (n : Int) (hw : Rd w F g bs i err)
    (hcall : ∀ w', Chg (fun _ => False) w w' → Rd w' F g bs i 0 → Calls Try.prog 59 #[.pointer (some ⟨bn, 0, none⟩), .pointer (some ⟨br, 0, none⟩)] w' (ResR w' F g bs (pRaw bs n i))) :
    Calls Try.prog 58 #[.pointer (some ⟨g, 0, none⟩), .func (.func 59) #[] #[.pointer (some ⟨bn, 0, none⟩), .pointer (some ⟨br, 0, none⟩)]] w (ResN w F g bs (rrun (pRaw bs n) [] i err)) := by
  have hW := Aside0.mk hw
  obtain ⟨A, c, hb0, hg, hi, hl, hby, hr0⟩ := hw
  obtain ⟨c0, c1, c2, f0, f1, f2⟩ := Rd.cells hb0
  have hgl := blk_lt hb0
  have hb := Aside0.mk hb0
  replace hcall := Aside0.mk hcall
  clear hb0 hr0 hby hg
  have hmf := mkfunc
  by_cases he : err = 0
  · have he1 : (err != 0) = false := by simpa using he
    subst he
    rcases hp : (pRaw bs n) i with cc | ⟨x, j⟩
    · replace hp := Aside0.mk hp
      go_enter_defers Try.func58, Try.ntmps58
      go_wp2_with (go_at_call 59; go_must (refine (hcall.out _ (((Chg.refl _ w).alloc _).alloc _) (hW.out.chg (((Chg.refl (fun _ => False) w).alloc _).alloc _) (fun _ _ _ h => h))).mono ?_); go_must (rintro e w1 ⟨hc1, hm⟩); go_must (rw [hp.out] at hm); go_must (obtain ⟨rfl, j1, hR1⟩ := hm); go_must (replace hc1 := Aside0.mk hc1); go_must (replace hR1 := Aside0.mk hR1))
      obtain ⟨A2, C2, hb2, hg2, hi2, hl2, hby2, hr2⟩ := hR1.out
      refine leaves_cons (f := 76) (args := #[.pointer (some ⟨w.heap.size + 1, 0, none⟩), .pointer (some ⟨w.heap.size, 0, none⟩)]) (by simp) (by simp [go_sem]) ?_
      refine (catchB w1 g (w.heap.size + 1) w.heap.size i cc 0 _ _ _ _ [] (hc1.out.blk (heap_alloc_new2 w _ _) (by show ¬ _ = _; omega)) (hc1.out.blk (heap_alloc_old2 w _ _) (by show ¬ _ = _; omega)) hb2).mono ?_
      rintro e u' w2 ⟨rfl, rfl, hc2, hb3⟩
      show ∃ v, _ ∧ _
      refine ⟨_, results_tmp rfl _ _ _, ?_⟩
      have hc02 : Chg (fun k => k = g) w w2 := (((Chg.refl (fun k => k = g) w).alloc _).alloc _ |>.trans hc1.out (fun _ _ h => h)).trans hc2 (fun _ _ h => h)
      have hr3 := R_chg hr2 hc2 (fun k hk ho e => ho.2 e)
      refine ⟨_, rfl, ?_, ?_, hc02⟩
      · rw [rrun, if_pos rfl, hp.out]; exact Kd.R_nil _ _ _ _ _
      · rw [rrun, if_pos rfl, hp.out]
        exact ⟨A2, C2, hb3, hg2, hi, hl2, hby2, hr3⟩
    · replace hp := Aside0.mk hp
      go_enter_defers Try.func58, Try.ntmps58
      go_wp2_with (go_at_call 59; go_must (refine (hcall.out _ (((Chg.refl _ w).alloc _).alloc _) (hW.out.chg (((Chg.refl (fun _ => False) w).alloc _).alloc _) (fun _ _ _ h => h))).mono ?_); go_must (rintro e w1 ⟨hc1, hm⟩); go_must (rw [hp.out] at hm); go_must (obtain ⟨v1, rfl, hv1, hR1⟩ := hm); go_must (replace hv1 := Aside0.mk hv1); go_must (replace hc1 := Aside0.mk hc1); go_must (replace hR1 := Aside0.mk hR1))
      refine leaves_cons (f := 76) (args := #[.pointer (some ⟨w.heap.size + 1, 0, none⟩), .pointer (some ⟨w.heap.size, 0, none⟩)]) (by simp) (by simp [go_sem]) ?_
      refine (idleB _ _ _).mono ?_
      rintro e u' w2 ⟨rfl, rfl, rfl⟩
      show ∃ v, _ ∧ _
      refine ⟨_, results_tmp rfl _ _ _, ?_⟩
      refine ⟨_, rfl, ?_, ?_, ((Chg.refl (fun k => k = g) w).alloc _).alloc _ |>.trans hc1.out (fun _ _ h => h)⟩
      · rw [rrun, if_pos rfl, hp.out]; exact Kd.R_mono hv1.out (fun k hk => hk.imp id (fun h => ⟨by have := h.1; simp at this; omega, h.2⟩))
      · rw [rrun, if_pos rfl, hp.out]
        exact hR1.out
  · have he1 : (err != 0) = true := by simpa using he
    replace he := Aside0.mk he
    go_enter_defers Try.func58, Try.ntmps58
    go_wp2
    show ∃ v, _ ∧ _
    refine ⟨_, results_tmp rfl _ _ _, ?_⟩
    have hc01 : Chg (fun _ => False) w (w.alloc (.cells #[.pointer (some ⟨g, 0, none⟩)] 33)) := (Chg.refl _ w).alloc _
    refine ⟨_, rfl, ?_, ?_, hc01.mono (fun _ _ h => h.elim)⟩
    · rw [rrun, if_neg he.out]; exact Kd.R_nil _ _ _ _ _
    · rw [rrun, if_neg he.out]
      exact hW.out.chg hc01 (fun _ _ _ h => h)

theorem rd_Raw (w : World) (F : Nat → Prop) (g i : Nat) (bs : List Int) (err n : Int) (hn1 : n ≤ 9223372036854775807) (hw : Rd w F g bs i err) :
    Calls Try.prog 23 #[.pointer (some ⟨g, 0, none⟩), .int .i64 n] w (ResN w F g bs (rrun (pRaw bs n) [] i err)) := by
  have hW := Aside0.mk hw
  have hgl := hw.lt
  have hmf := mkfunc
  replace hn1 := Aside0.mk hn1
  clear hw
  go_enter Try.func23, Try.ntmps23
  go_wp2_with (go_at_call 58; go_must (refine (reading_raw _ F g i bs err (w.heap.size + 1) w.heap.size n (hW.out.chg (((Chg.refl (fun _ => False) w).alloc _).alloc _) (fun _ _ _ h => h)) (fun w' hc hR => rd_raw1 w' F g i _ _ _ _ bs n hn1.out hR (hc.blk (heap_alloc_new2 w _ _) (fun h => h)) (hc.blk (heap_alloc_old2 w _ _) (fun h => h)))).mono ?_); go_must (rintro e w1 ⟨v1, rfl, hv1, hR1, hc1⟩); go_must (obtain ⟨A1, n1, cap1, rfl⟩ := R_sl hv1); go_must (replace hv1 := Aside0.mk hv1); go_must (replace hc1 := Aside0.mk hc1); go_must (replace hR1 := Aside0.mk hR1))
  go_ret
  exact ⟨_, rfl, Kd.R_mono hv1.out (fun k hk => hk.imp id (fun h => ⟨by have := h.1; simp at this; omega, h.2⟩)), hR1.out, (((Chg.refl (fun k => k = g) w).alloc _).alloc _).trans hc1.out (fun _ _ h => h)⟩
end Go.Proofs.Ytbheebcjbolboaa.K
