import Derived.Test.YtbheebcjbolboaaRb
namespace Go.Proofs.Ytbheebcjbolboaa.K
open Go.RowKit Go.Proofs.YtbheebcjbolboaaW.PrintWords Go.Proofs.YtbheebcjbolboaaW.PrintLast Go.Proofs.YtbheebcjbolboaaW.PrintMore
set_option linter.unusedVariables false
set_option linter.unusedSimpArgs false
set_option maxRecDepth 100000

/-- How a method that reads ends. -/
def ResM {α : Type} (enc : α → Value) (w : World) (F : Nat → Prop) (g : Nat) (bs : List Int) (r : α × Nat × Int) (e : Ending) (w' : World) : Prop :=
  e = .returned (enc r.1) ∧ Rd w' F g bs r.2.1 r.2.2 ∧ Chg (fun k => k = g) w w'
theorem Rd.zero {w w1 w2 : World} {F : Nat → Prop} {g i j : Nat} {bs : List Int} {err c : Int} (h : Rd w F g bs i err) (hc : Chg (fun k => k = g) w w2)
    (hb : ∀ v0 v1 x, w1.heap[g]? = some (.cells #[v0, v1, .int .i64 x] 79 (0, 0)) → w2.heap[g]? = some (.cells #[v0, .int .i64 i, .int .i64 c] 79 (0, 0)))
    (h1 : ∃ x y, ∀ A C, w.heap[g]? = some (.cells #[.slice A bs.length C, .int .i64 i, .int .i64 err] 79 (0, 0)) → w1.heap[g]? = some (.cells #[.slice A bs.length C, x, .int .i64 y] 79 (0, 0))) : Rd w2 F g bs i c := by
  obtain ⟨A, C, h0, hg, hi, hl, h3, hr⟩ := h
  obtain ⟨x, y, h1⟩ := h1
  exact ⟨A, C, hb _ _ _ (h1 A C h0), hg, hi, hl, h3, R_chg hr hc (fun k hk ho e => ho.2 e)⟩
theorem mkfunc (fn : Fn) (first cap : Array Value) (w : World) : (Instr.makeFunc fn first cap).run Try.prog w = .ok (.func fn first cap) w := rfl

theorem heap_alloc_new2 (w : World) (a b : Obj) : ((w.alloc a).alloc b).heap[w.heap.size + 1]? = some b := by
  have := heap_alloc_new (w.alloc a) b
  simpa using this
theorem heap_alloc_old2 (w : World) (a b : Obj) : ((w.alloc a).alloc b).heap[w.heap.size]? = some a := by
  rw [heap_alloc_old (w.alloc a) b (by simp)]
  exact heap_alloc_new w a

theorem reading_next (w : World) (F : Nat → Prop) (g i : Nat) (bs : List Int) (err : Int) (hw : Rd w F g bs i err)
    (hcall : ∀ w', Chg (fun _ => False) w w' → Rd w' F g bs i 0 → Calls Try.prog 65 #[.pointer (some ⟨g, 0, none⟩)] w' (Res (Value.int .u8) w' F g bs (pNext bs i))) :
    Calls Try.prog 64 #[.pointer (some ⟨g, 0, none⟩), .func (.func 65) #[.pointer (some ⟨g, 0, none⟩)] #[]] w (ResM (Value.int .u8) w F g bs (rrun (pNext bs) 0 i err)) := by
  have hW := Aside0.mk hw
  obtain ⟨A, c, hb0, hg, hi, hl, hby, hr0⟩ := hw
  obtain ⟨c0, c1, c2, f0, f1, f2⟩ := Rd.cells hb0
  have hgl := blk_lt hb0
  have hb := Aside0.mk hb0
  replace hcall := Aside0.mk hcall
  clear hb0 hr0 hby hg
  have hmf := mkfunc
  by_cases he : err = 0
  · have he1 : (err != 0) = false := by simpa using he
    subst he
    rcases hp : (pNext bs) i with cc | ⟨x, j⟩
    · replace hp := Aside0.mk hp
      go_enter_defers Try.func64, Try.ntmps64
      go_wp2_with (go_at_call 65; go_must (refine (hcall.out _ (((Chg.refl _ w).alloc _).alloc _) (hW.out.chg (((Chg.refl (fun _ => False) w).alloc _).alloc _) (fun _ _ _ h => h))).mono ?_); go_must (rintro e w1 ⟨hc1, hm⟩); go_must (rw [hp.out] at hm); go_must (obtain ⟨rfl, j1, hR1⟩ := hm); go_must (replace hc1 := Aside0.mk hc1); go_must (replace hR1 := Aside0.mk hR1))
      obtain ⟨A2, C2, hb2, hg2, hi2, hl2, hby2, hr2⟩ := hR1.out
      refine leaves_cons (f := 78) (args := #[.pointer (some ⟨w.heap.size + 1, 0, none⟩), .pointer (some ⟨w.heap.size, 0, none⟩)]) (by simp) (by simp [go_sem]) ?_
      refine (catchY w1 g (w.heap.size + 1) w.heap.size i cc 0 _ _ _ _ [] (hc1.out.blk (heap_alloc_new2 w _ _) (by show ¬ _ = _; omega)) (hc1.out.blk (heap_alloc_old2 w _ _) (by show ¬ _ = _; omega)) hb2).mono ?_
      rintro e u' w2 ⟨rfl, rfl, hc2, hb3⟩
      show ∃ v, _ ∧ _
      refine ⟨_, results_tmp rfl _ _ _, ?_⟩
      have hc02 : Chg (fun k => k = g) w w2 := (((Chg.refl (fun k => k = g) w).alloc _).alloc _ |>.trans hc1.out (fun _ _ h => h)).trans hc2 (fun _ _ h => h)
      have hr3 := R_chg hr2 hc2 (fun k hk ho e => ho.2 e)
      refine ⟨?_, ?_, hc02⟩
      · rw [rrun, if_pos rfl, hp.out]; rfl
      · rw [rrun, if_pos rfl, hp.out]
        exact ⟨A2, C2, hb3, hg2, hi, hl2, hby2, hr3⟩
    · replace hp := Aside0.mk hp
      go_enter_defers Try.func64, Try.ntmps64
      go_wp2_with (go_at_call 65; go_must (refine (hcall.out _ (((Chg.refl _ w).alloc _).alloc _) (hW.out.chg (((Chg.refl (fun _ => False) w).alloc _).alloc _) (fun _ _ _ h => h))).mono ?_); go_must (rintro e w1 ⟨hc1, hm⟩); go_must (rw [hp.out] at hm); go_must (obtain ⟨rfl, hR1⟩ := hm); go_must (replace hc1 := Aside0.mk hc1); go_must (replace hR1 := Aside0.mk hR1))
      refine leaves_cons (f := 78) (args := #[.pointer (some ⟨w.heap.size + 1, 0, none⟩), .pointer (some ⟨w.heap.size, 0, none⟩)]) (by simp) (by simp [go_sem]) ?_
      refine (idleY _ _ _).mono ?_
      rintro e u' w2 ⟨rfl, rfl, rfl⟩
      show ∃ v, _ ∧ _
      refine ⟨_, results_tmp rfl _ _ _, ?_⟩
      refine ⟨?_, ?_, ((Chg.refl (fun k => k = g) w).alloc _).alloc _ |>.trans hc1.out (fun _ _ h => h)⟩
      · rw [rrun, if_pos rfl, hp.out]; rfl
      · rw [rrun, if_pos rfl, hp.out]
        exact hR1.out
  · have he1 : (err != 0) = true := by simpa using he
    replace he := Aside0.mk he
    go_enter_defers Try.func64, Try.ntmps64
    go_wp2
    show ∃ v, _ ∧ _
    refine ⟨_, results_tmp rfl _ _ _, ?_⟩
    have hc01 : Chg (fun _ => False) w (w.alloc (.cells #[.pointer (some ⟨g, 0, none⟩)] 33)) := (Chg.refl _ w).alloc _
    refine ⟨?_, ?_, hc01.mono (fun _ _ h => h.elim)⟩
    · rw [rrun, if_neg he.out]; rfl
    · rw [rrun, if_neg he.out]
      exact hW.out.chg hc01 (fun _ _ _ h => h)

theorem reading_number (w : World) (F : Nat → Prop) (g i : Nat) (bs : List Int) (err : Int) (hw : Rd w F g bs i err)
    (hcall : ∀ w', Chg (fun _ => False) w w' → Rd w' F g bs i 0 → Calls Try.prog 67 #[.pointer (some ⟨g, 0, none⟩)] w' (Res (Value.int .u64) w' F g bs (pNum bs i))) :
    Calls Try.prog 66 #[.pointer (some ⟨g, 0, none⟩), .func (.func 67) #[.pointer (some ⟨g, 0, none⟩)] #[]] w (ResM (Value.int .u64) w F g bs (rrun (pNum bs) 0 i err)) := by
  have hW := Aside0.mk hw
  obtain ⟨A, c, hb0, hg, hi, hl, hby, hr0⟩ := hw
  obtain ⟨c0, c1, c2, f0, f1, f2⟩ := Rd.cells hb0
  have hgl := blk_lt hb0
  have hb := Aside0.mk hb0
  replace hcall := Aside0.mk hcall
  clear hb0 hr0 hby hg
  have hmf := mkfunc
  by_cases he : err = 0
  · have he1 : (err != 0) = false := by simpa using he
    subst he
    rcases hp : (pNum bs) i with cc | ⟨x, j⟩
    · replace hp := Aside0.mk hp
      go_enter_defers Try.func66, Try.ntmps66
      go_wp2_with (go_at_call 67; go_must (refine (hcall.out _ (((Chg.refl _ w).alloc _).alloc _) (hW.out.chg (((Chg.refl (fun _ => False) w).alloc _).alloc _) (fun _ _ _ h => h))).mono ?_); go_must (rintro e w1 ⟨hc1, hm⟩); go_must (rw [hp.out] at hm); go_must (obtain ⟨rfl, j1, hR1⟩ := hm); go_must (replace hc1 := Aside0.mk hc1); go_must (replace hR1 := Aside0.mk hR1))
      obtain ⟨A2, C2, hb2, hg2, hi2, hl2, hby2, hr2⟩ := hR1.out
      refine leaves_cons (f := 79) (args := #[.pointer (some ⟨w.heap.size + 1, 0, none⟩), .pointer (some ⟨w.heap.size, 0, none⟩)]) (by simp) (by simp [go_sem]) ?_
      refine (catchU w1 g (w.heap.size + 1) w.heap.size i cc 0 _ _ _ _ [] (hc1.out.blk (heap_alloc_new2 w _ _) (by show ¬ _ = _; omega)) (hc1.out.blk (heap_alloc_old2 w _ _) (by show ¬ _ = _; omega)) hb2).mono ?_
      rintro e u' w2 ⟨rfl, rfl, hc2, hb3⟩
      show ∃ v, _ ∧ _
      refine ⟨_, results_tmp rfl _ _ _, ?_⟩
      have hc02 : Chg (fun k => k = g) w w2 := (((Chg.refl (fun k => k = g) w).alloc _).alloc _ |>.trans hc1.out (fun _ _ h => h)).trans hc2 (fun _ _ h => h)
      have hr3 := R_chg hr2 hc2 (fun k hk ho e => ho.2 e)
      refine ⟨?_, ?_, hc02⟩
      · rw [rrun, if_pos rfl, hp.out]; rfl
      · rw [rrun, if_pos rfl, hp.out]
        exact ⟨A2, C2, hb3, hg2, hi, hl2, hby2, hr3⟩
    · replace hp := Aside0.mk hp
      go_enter_defers Try.func66, Try.ntmps66
      go_wp2_with (go_at_call 67; go_must (refine (hcall.out _ (((Chg.refl _ w).alloc _).alloc _) (hW.out.chg (((Chg.refl (fun _ => False) w).alloc _).alloc _) (fun _ _ _ h => h))).mono ?_); go_must (rintro e w1 ⟨hc1, hm⟩); go_must (rw [hp.out] at hm); go_must (obtain ⟨rfl, hR1⟩ := hm); go_must (replace hc1 := Aside0.mk hc1); go_must (replace hR1 := Aside0.mk hR1))
      refine leaves_cons (f := 79) (args := #[.pointer (some ⟨w.heap.size + 1, 0, none⟩), .pointer (some ⟨w.heap.size, 0, none⟩)]) (by simp) (by simp [go_sem]) ?_
      refine (idleU _ _ _).mono ?_
      rintro e u' w2 ⟨rfl, rfl, rfl⟩
      show ∃ v, _ ∧ _
      refine ⟨_, results_tmp rfl _ _ _, ?_⟩
      refine ⟨?_, ?_, ((Chg.refl (fun k => k = g) w).alloc _).alloc _ |>.trans hc1.out (fun _ _ h => h)⟩
      · rw [rrun, if_pos rfl, hp.out]; rfl
      · rw [rrun, if_pos rfl, hp.out]
        exact hR1.out
  · have he1 : (err != 0) = true := by simpa using he
    replace he := Aside0.mk he
    go_enter_defers Try.func66, Try.ntmps66
    go_wp2
    show ∃ v, _ ∧ _
    refine ⟨_, results_tmp rfl _ _ _, ?_⟩
    have hc01 : Chg (fun _ => False) w (w.alloc (.cells #[.pointer (some ⟨g, 0, none⟩)] 33)) := (Chg.refl _ w).alloc _
    refine ⟨?_, ?_, hc01.mono (fun _ _ h => h.elim)⟩
    · rw [rrun, if_neg he.out]; rfl
    · rw [rrun, if_neg he.out]
      exact hW.out.chg hc01 (fun _ _ _ h => h)

theorem reading_word (w : World) (F : Nat → Prop) (g i : Nat) (bs : List Int) (err : Int) (br : Nat) (hw : Rd w F g bs i err)
    (hcall : ∀ w', Chg (fun _ => False) w w' → Rd w' F g bs i 0 → Calls Try.prog 70 #[.pointer (some ⟨br, 0, none⟩)] w' (Res (Value.int .u64) w' F g bs (pWord bs i))) :
    Calls Try.prog 66 #[.pointer (some ⟨g, 0, none⟩), .func (.func 70) #[] #[.pointer (some ⟨br, 0, none⟩)]] w (ResM (Value.int .u64) w F g bs (rrun (pWord bs) 0 i err)) := by
  have hW := Aside0.mk hw
  obtain ⟨A, c, hb0, hg, hi, hl, hby, hr0⟩ := hw
  obtain ⟨c0, c1, c2, f0, f1, f2⟩ := Rd.cells hb0
  have hgl := blk_lt hb0
  have hb := Aside0.mk hb0
  replace hcall := Aside0.mk hcall
  clear hb0 hr0 hby hg
  have hmf := mkfunc
  by_cases he : err = 0
  · have he1 : (err != 0) = false := by simpa using he
    subst he
    rcases hp : (pWord bs) i with cc | ⟨x, j⟩
    · replace hp := Aside0.mk hp
      go_enter_defers Try.func66, Try.ntmps66
      go_wp2_with (go_at_call 70; go_must (refine (hcall.out _ (((Chg.refl _ w).alloc _).alloc _) (hW.out.chg (((Chg.refl (fun _ => False) w).alloc _).alloc _) (fun _ _ _ h => h))).mono ?_); go_must (rintro e w1 ⟨hc1, hm⟩); go_must (rw [hp.out] at hm); go_must (obtain ⟨rfl, j1, hR1⟩ := hm); go_must (replace hc1 := Aside0.mk hc1); go_must (replace hR1 := Aside0.mk hR1))
      obtain ⟨A2, C2, hb2, hg2, hi2, hl2, hby2, hr2⟩ := hR1.out
      refine leaves_cons (f := 79) (args := #[.pointer (some ⟨w.heap.size + 1, 0, none⟩), .pointer (some ⟨w.heap.size, 0, none⟩)]) (by simp) (by simp [go_sem]) ?_
      refine (catchU w1 g (w.heap.size + 1) w.heap.size i cc 0 _ _ _ _ [] (hc1.out.blk (heap_alloc_new2 w _ _) (by show ¬ _ = _; omega)) (hc1.out.blk (heap_alloc_old2 w _ _) (by show ¬ _ = _; omega)) hb2).mono ?_
      rintro e u' w2 ⟨rfl, rfl, hc2, hb3⟩
      show ∃ v, _ ∧ _
      refine ⟨_, results_tmp rfl _ _ _, ?_⟩
      have hc02 : Chg (fun k => k = g) w w2 := (((Chg.refl (fun k => k = g) w).alloc _).alloc _ |>.trans hc1.out (fun _ _ h => h)).trans hc2 (fun _ _ h => h)
      have hr3 := R_chg hr2 hc2 (fun k hk ho e => ho.2 e)
      refine ⟨?_, ?_, hc02⟩
      · rw [rrun, if_pos rfl, hp.out]; rfl
      · rw [rrun, if_pos rfl, hp.out]
        exact ⟨A2, C2, hb3, hg2, hi, hl2, hby2, hr3⟩
    · replace hp := Aside0.mk hp
      go_enter_defers Try.func66, Try.ntmps66
      go_wp2_with (go_at_call 70; go_must (refine (hcall.out _ (((Chg.refl _ w).alloc _).alloc _) (hW.out.chg (((Chg.refl (fun _ => False) w).alloc _).alloc _) (fun _ _ _ h => h))).mono ?_); go_must (rintro e w1 ⟨hc1, hm⟩); go_must (rw [hp.out] at hm); go_must (obtain ⟨rfl, hR1⟩ := hm); go_must (replace hc1 := Aside0.mk hc1); go_must (replace hR1 := Aside0.mk hR1))
      refine leaves_cons (f := 79) (args := #[.pointer (some ⟨w.heap.size + 1, 0, none⟩), .pointer (some ⟨w.heap.size, 0, none⟩)]) (by simp) (by simp [go_sem]) ?_
      refine (idleU _ _ _).mono ?_
      rintro e u' w2 ⟨rfl, rfl, rfl⟩
      show ∃ v, _ ∧ _
      refine ⟨_, results_tmp rfl _ _ _, ?_⟩
      refine ⟨?_, ?_, ((Chg.refl (fun k => k = g) w).alloc _).alloc _ |>.trans hc1.out (fun _ _ h => h)⟩
      · rw [rrun, if_pos rfl, hp.out]; rfl
      · rw [rrun, if_pos rfl, hp.out]
        exact hR1.out
  · have he1 : (err != 0) = true := by simpa using he
    replace he := Aside0.mk he
    go_enter_defers Try.func66, Try.ntmps66
    go_wp2
    show ∃ v, _ ∧ _
    refine ⟨_, results_tmp rfl _ _ _, ?_⟩
    have hc01 : Chg (fun _ => False) w (w.alloc (.cells #[.pointer (some ⟨g, 0, none⟩)] 33)) := (Chg.refl _ w).alloc _
    refine ⟨?_, ?_, hc01.mono (fun _ _ h => h.elim)⟩
    · rw [rrun, if_neg he.out]; rfl
    · rw [rrun, if_neg he.out]
      exact hW.out.chg hc01 (fun _ _ _ h => h)

theorem reading_count (w : World) (F : Nat → Prop) (g i : Nat) (bs : List Int) (err : Int) (br bm : Nat) (most : Int) (hw : Rd w F g bs i err)
    (hcall : ∀ w', Chg (fun _ => False) w w' → Rd w' F g bs i 0 → Calls Try.prog 75 #[.pointer (some ⟨br, 0, none⟩), .pointer (some ⟨bm, 0, none⟩)] w' (Res (Value.int .i64) w' F g bs (pCount bs most i))) :
    Calls Try.prog 74 #[.pointer (some ⟨g, 0, none⟩), .func (.func 75) #[] #[.pointer (some ⟨br, 0, none⟩), .pointer (some ⟨bm, 0, none⟩)]] w (ResM (Value.int .i64) w F g bs (rrun (pCount bs most) 0 i err)) := by
  have hW := Aside0.mk hw
  obtain ⟨A, c, hb0, hg, hi, hl, hby, hr0⟩ := hw
  obtain ⟨c0, c1, c2, f0, f1, f2⟩ := Rd.cells hb0
  have hgl := blk_lt hb0
  have hb := Aside0.mk hb0
  replace hcall := Aside0.mk hcall
  clear hb0 hr0 hby hg
  have hmf := mkfunc
  by_cases he : err = 0
  · have he1 : (err != 0) = false := by simpa using he
    subst he
    rcases hp : (pCount bs most) i with cc | ⟨x, j⟩
    · replace hp := Aside0.mk hp
      go_enter_defers Try.func74, Try.ntmps74
      go_wp2_with (go_at_call 75; go_must (refine (hcall.out _ (((Chg.refl _ w).alloc _).alloc _) (hW.out.chg (((Chg.refl (fun _ => False) w).alloc _).alloc _) (fun _ _ _ h => h))).mono ?_); go_must (rintro e w1 ⟨hc1, hm⟩); go_must (rw [hp.out] at hm); go_must (obtain ⟨rfl, j1, hR1⟩ := hm); go_must (replace hc1 := Aside0.mk hc1); go_must (replace hR1 := Aside0.mk hR1))
      obtain ⟨A2, C2, hb2, hg2, hi2, hl2, hby2, hr2⟩ := hR1.out
      refine leaves_cons (f := 80) (args := #[.pointer (some ⟨w.heap.size + 1, 0, none⟩), .pointer (some ⟨w.heap.size, 0, none⟩)]) (by simp) (by simp [go_sem]) ?_
      refine (catchI w1 g (w.heap.size + 1) w.heap.size i cc 0 _ _ _ _ [] (hc1.out.blk (heap_alloc_new2 w _ _) (by show ¬ _ = _; omega)) (hc1.out.blk (heap_alloc_old2 w _ _) (by show ¬ _ = _; omega)) hb2).mono ?_
      rintro e u' w2 ⟨rfl, rfl, hc2, hb3⟩
      show ∃ v, _ ∧ _
      refine ⟨_, results_tmp rfl _ _ _, ?_⟩
      have hc02 : Chg (fun k => k = g) w w2 := (((Chg.refl (fun k => k = g) w).alloc _).alloc _ |>.trans hc1.out (fun _ _ h => h)).trans hc2 (fun _ _ h => h)
      have hr3 := R_chg hr2 hc2 (fun k hk ho e => ho.2 e)
      refine ⟨?_, ?_, hc02⟩
      · rw [rrun, if_pos rfl, hp.out]; rfl
      · rw [rrun, if_pos rfl, hp.out]
        exact ⟨A2, C2, hb3, hg2, hi, hl2, hby2, hr3⟩
    · replace hp := Aside0.mk hp
      go_enter_defers Try.func74, Try.ntmps74
      go_wp2_with (go_at_call 75; go_must (refine (hcall.out _ (((Chg.refl _ w).alloc _).alloc _) (hW.out.chg (((Chg.refl (fun _ => False) w).alloc _).alloc _) (fun _ _ _ h => h))).mono ?_); go_must (rintro e w1 ⟨hc1, hm⟩); go_must (rw [hp.out] at hm); go_must (obtain ⟨rfl, hR1⟩ := hm); go_must (replace hc1 := Aside0.mk hc1); go_must (replace hR1 := Aside0.mk hR1))
      refine leaves_cons (f := 80) (args := #[.pointer (some ⟨w.heap.size + 1, 0, none⟩), .pointer (some ⟨w.heap.size, 0, none⟩)]) (by simp) (by simp [go_sem]) ?_
      refine (idleI _ _ _).mono ?_
      rintro e u' w2 ⟨rfl, rfl, rfl⟩
      show ∃ v, _ ∧ _
      refine ⟨_, results_tmp rfl _ _ _, ?_⟩
      refine ⟨?_, ?_, ((Chg.refl (fun k => k = g) w).alloc _).alloc _ |>.trans hc1.out (fun _ _ h => h)⟩
      · rw [rrun, if_pos rfl, hp.out]; rfl
      · rw [rrun, if_pos rfl, hp.out]
        exact hR1.out
  · have he1 : (err != 0) = true := by simpa using he
    replace he := Aside0.mk he
    go_enter_defers Try.func74, Try.ntmps74
    go_wp2
    show ∃ v, _ ∧ _
    refine ⟨_, results_tmp rfl _ _ _, ?_⟩
    have hc01 : Chg (fun _ => False) w (w.alloc (.cells #[.pointer (some ⟨g, 0, none⟩)] 33)) := (Chg.refl _ w).alloc _
    refine ⟨?_, ?_, hc01.mono (fun _ _ h => h.elim)⟩
    · rw [rrun, if_neg he.out]; rfl
    · rw [rrun, if_neg he.out]
      exact hW.out.chg hc01 (fun _ _ _ h => h)

end Go.Proofs.Ytbheebcjbolboaa.K
