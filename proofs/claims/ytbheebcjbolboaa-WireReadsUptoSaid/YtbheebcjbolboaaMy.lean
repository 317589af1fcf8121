import Derived.Test.YtbheebcjbolboaaMz
import Derived.Test.YtbheebcjbolboaaLz
import Derived.Test.YtbheebcjbolboaaHa
import Derived.IntWalk
import Derived.BigQuiet
import Derived.Deep.RegionWith
import Derived.Test.YtbheebcjbolboaaNb
import Derived.Test.YtbheebcjbolboaaLh
import Derived.Deep.RegionHeld3
namespace Go.Proofs.Ytbheebcjbolboaa.K
open Go.RowKit Go.Proofs.YtbheebcjbolboaaW.PrintWords Go.Proofs.YtbheebcjbolboaaW.PrintLast Go.Proofs.YtbheebcjbolboaaW.PrintMore
set_option linter.unusedVariables false
set_option linter.unusedSimpArgs false
set_option maxRecDepth 100000

theorem results_cellS {fn : Func} {c : Tmp} {t : TypeId} (h : fn.results = #[.cell c t]) (tmps : Array Value) (P : Program) (w : World) (g : Nat) (hp : tmps.getD c undef = .pointer (some ⟨g, 0, none⟩)) (v : Value) (hl : (loadVar t ⟨g, 0, none⟩).run P w = .ok v w) :
    (results fn tmps).run P w = .ok v w := by
  simp only [results, h]
  rw [Array.getD_eq_getD_getElem?] at hp
  simp [hp, asAddr, hl, Result.andThen]
set_option maxHeartbeats 4000000
theorem law_getRef (w : World) (F : Nat → Prop) (gr i : Nat) (bs : List Int) (err on kind n : Int) (hw : RR w F gr bs i err) (hn0 : -9223372036854775808 ≤ n) (hn1 : n ≤ 9223372036854775807) (hF0 : ∀ k, F k → k < w.heap.size) :
    Calls Try.prog 18 #[.pointer (some ⟨gr, 0, none⟩), .agg #[.int .i64 on, .int .i64 kind, .int .i64 n]] w fun e w' =>
      e = .returned (.agg #[.int .u64 (pgetA bs i err kind n).x, .string (strOfNums (pgetA bs i err kind n).s), .int .i64 (pgetA bs i err kind n).e]) ∧
        RR w' F gr bs (pgetA bs i err kind n).i (pgetA bs i err kind n).err ∧ Chg (fun k => k = gr) w w' := by
  have hby : ∀ c ∈ bs, 0 ≤ c ∧ c < 256 := by obtain ⟨_, _, _, _, _, _, h, _⟩ := hw; exact h
  replace hby := Aside0.mk hby
  have hF := Aside0.mk hF0
  clear hF0
  have hgl : gr < w.heap.size := by obtain ⟨_, _, h, _⟩ := hw; exact blk_lt h
  have hc0 := Aside0.mk (((Chg.refl (fun _ => False) w).alloc (.cells #[.int .i64 on, .int .i64 kind, .int .i64 n] 40)).alloc (.cells #[.int .u64 0, .string ⟨#[]⟩, .int .i64 0] 43))
  have hbox := Aside0.mk (heap_alloc_new2 w (.cells #[.int .i64 on, .int .i64 kind, .int .i64 n] 40) (.cells #[.int .u64 0, .string ⟨#[]⟩, .int .i64 0] 43))
  have hbox1 := Aside0.mk (heap_alloc_old2 w (.cells #[.int .i64 on, .int .i64 kind, .int .i64 n] 40) (.cells #[.int .u64 0, .string ⟨#[]⟩, .int .i64 0] 43))
  have hRd := Aside0.mk (hw.chg hc0.out (fun _ _ _ h => h))
  have hwA := Aside0.mk hw
  clear hw
  have hi : i ≤ bs.length ∧ bs.length ≤ 140737488355328 := by obtain ⟨_, _, _, _, h1, h2, _⟩ := hwA.out; exact ⟨h1, h2⟩
  obtain ⟨hi1, hi2⟩ := hi
  by_cases g0 : kind = 0
  · subst g0
    have hx : IntKind.u64.wrap (rrun (pNext bs) 0 i err).1 = (rrun (pNext bs) 0 i err).1 := by have := rr_next hby.out i err; exact wrap_id this.1 (by omega)
    go_enter Try.func18, Try.ntmps18
    go_wp2_with (go_at_call 46; go_must (refine (ref_Byte _ _ gr i bs err hRd.out).mono ?_); go_must (rintro e w1 ⟨rfl, hR1, hc1⟩); go_must (obtain ⟨b0, b1, b2, f0, f1, f2⟩ := cells3 (hc1.blk hbox.out (by omega))); go_must (replace hR1 := Aside0.mk hR1); go_must (replace hc1 := Aside0.mk hc1))
    have hA : pgetA bs i err 0 n = ⟨(rrun (pNext bs) 0 i err).1, [], 0, [], (rrun (pNext bs) 0 i err).2.1, (rrun (pNext bs) 0 i err).2.2⟩ := by unfold pgetA; rw [if_pos rfl]
    have h5 := set3 (x := .int .u64 (rrun (pNext bs) 0 i err).1) (y := .string (⟨#[]⟩)) (z := .int .i64 0) (hc1.out.blk hbox.out (by omega))
    generalize hw5 : World.setCell (World.setCell (World.setCell _ _ _) _ _) _ _ = w5 at h5
    replace h5 := Aside0.mk h5
    clear hw5
    (try simp only [Exit.inBlock, Exit.then])
    refine bodyPost_ret (results_cellS rfl _ _ _ _ rfl _ (run_loadVar_row _ _ _ _ _ _ _ h5.out.1 Try.underlying43 rfl (by kernel_rfl))) rfl ?_
    rw [hA]
    refine ⟨rfl, ?_, ?_⟩
    · exact hR1.out.chg h5.out.2 (fun j hj hFj e => by have := hF.out j hFj; omega)
    · exact ((hc0.out.mono (fun _ _ h => h.elim)).trans hc1.out (fun _ _ h => h)).trans h5.out.2 (fun j hj e => by omega)
  have t0 : (kind == 0) = false := by simpa using g0
  by_cases g1 : kind = 1
  · subst g1
    go_enter Try.func18, Try.ntmps18
    go_wp2_with (go_at_call 47; go_must (refine (ref_Uint _ _ gr i bs err hRd.out).mono ?_); go_must (rintro e w1 ⟨rfl, hR1, hc1⟩); go_must (obtain ⟨b0, b1, b2, f0, f1, f2⟩ := cells3 (hc1.blk hbox.out (by omega))); go_must (replace hR1 := Aside0.mk hR1); go_must (replace hc1 := Aside0.mk hc1))
    have hA : pgetA bs i err 1 n = ⟨(rrun (pNum bs) 0 i err).1, [], 0, [], (rrun (pNum bs) 0 i err).2.1, (rrun (pNum bs) 0 i err).2.2⟩ := by unfold pgetA; rw [if_neg (by decide), if_pos rfl]
    have h5 := set3 (x := .int .u64 (rrun (pNum bs) 0 i err).1) (y := .string (⟨#[]⟩)) (z := .int .i64 0) (hc1.out.blk hbox.out (by omega))
    generalize hw5 : World.setCell (World.setCell (World.setCell _ _ _) _ _) _ _ = w5 at h5
    replace h5 := Aside0.mk h5
    clear hw5
    (try simp only [Exit.inBlock, Exit.then])
    refine bodyPost_ret (results_cellS rfl _ _ _ _ rfl _ (run_loadVar_row _ _ _ _ _ _ _ h5.out.1 Try.underlying43 rfl (by kernel_rfl))) rfl ?_
    rw [hA]
    refine ⟨rfl, ?_, ?_⟩
    · exact hR1.out.chg h5.out.2 (fun j hj hFj e => by have := hF.out j hFj; omega)
    · exact ((hc0.out.mono (fun _ _ h => h.elim)).trans hc1.out (fun _ _ h => h)).trans h5.out.2 (fun j hj e => by omega)
  have t1 : (kind == 1) = false := by simpa using g1
  by_cases g2 : kind = 2
  · subst g2
    go_enter Try.func18, Try.ntmps18
    go_wp2_with (go_at_call 48; go_must (refine (ref_Int _ _ gr i bs err hRd.out).mono ?_); go_must (rintro e w1 ⟨rfl, hR1, hc1⟩); go_must (obtain ⟨b0, b1, b2, f0, f1, f2⟩ := cells3 (hc1.blk hbox.out (by omega))); go_must (replace hR1 := Aside0.mk hR1); go_must (replace hc1 := Aside0.mk hc1))
    have hA : pgetA bs i err 2 n = ⟨(IntKind.u64.wrap (unfoldI (rrun (pNum bs) 0 i err).1)), [], 0, [], (rrun (pNum bs) 0 i err).2.1, (rrun (pNum bs) 0 i err).2.2⟩ := by unfold pgetA; rw [if_neg (by decide), if_neg (by decide), if_pos rfl]
    have h5 := set3 (x := .int .u64 (IntKind.u64.wrap (unfoldI (rrun (pNum bs) 0 i err).1))) (y := .string (⟨#[]⟩)) (z := .int .i64 0) (hc1.out.blk hbox.out (by omega))
    generalize hw5 : World.setCell (World.setCell (World.setCell _ _ _) _ _) _ _ = w5 at h5
    replace h5 := Aside0.mk h5
    clear hw5
    (try simp only [Exit.inBlock, Exit.then])
    refine bodyPost_ret (results_cellS rfl _ _ _ _ rfl _ (run_loadVar_row _ _ _ _ _ _ _ h5.out.1 Try.underlying43 rfl (by kernel_rfl))) rfl ?_
    rw [hA]
    refine ⟨rfl, ?_, ?_⟩
    · exact hR1.out.chg h5.out.2 (fun j hj hFj e => by have := hF.out j hFj; omega)
    · exact ((hc0.out.mono (fun _ _ h => h.elim)).trans hc1.out (fun _ _ h => h)).trans h5.out.2 (fun j hj e => by omega)
  have t2 : (kind == 2) = false := by simpa using g2
  by_cases g3 : kind = 3
  · subst g3
    go_enter Try.func18, Try.ntmps18
    go_wp2_with (go_at_call 49; go_must (refine (ref_Word _ _ gr i bs err hRd.out).mono ?_); go_must (rintro e w1 ⟨rfl, hR1, hc1⟩); go_must (obtain ⟨b0, b1, b2, f0, f1, f2⟩ := cells3 (hc1.blk hbox.out (by omega))); go_must (replace hR1 := Aside0.mk hR1); go_must (replace hc1 := Aside0.mk hc1))
    have hA : pgetA bs i err 3 n = ⟨(rrun (pWord bs) 0 i err).1, [], 0, [], (rrun (pWord bs) 0 i err).2.1, (rrun (pWord bs) 0 i err).2.2⟩ := by unfold pgetA; rw [if_neg (by decide), if_neg (by decide), if_neg (by decide), if_pos rfl]
    have h5 := set3 (x := .int .u64 (rrun (pWord bs) 0 i err).1) (y := .string (⟨#[]⟩)) (z := .int .i64 0) (hc1.out.blk hbox.out (by omega))
    generalize hw5 : World.setCell (World.setCell (World.setCell _ _ _) _ _) _ _ = w5 at h5
    replace h5 := Aside0.mk h5
    clear hw5
    (try simp only [Exit.inBlock, Exit.then])
    refine bodyPost_ret (results_cellS rfl _ _ _ _ rfl _ (run_loadVar_row _ _ _ _ _ _ _ h5.out.1 Try.underlying43 rfl (by kernel_rfl))) rfl ?_
    rw [hA]
    refine ⟨rfl, ?_, ?_⟩
    · exact hR1.out.chg h5.out.2 (fun j hj hFj e => by have := hF.out j hFj; omega)
    · exact ((hc0.out.mono (fun _ _ h => h.elim)).trans hc1.out (fun _ _ h => h)).trans h5.out.2 (fun j hj e => by omega)
  have t3 : (kind == 3) = false := by simpa using g3
  by_cases g4 : kind = 4
  · subst g4
    go_enter Try.func18, Try.ntmps18
    go_wp2_with (go_at_call 50; go_must (refine (ref_Text _ _ gr i bs err n hn0 hn1 hRd.out).mono ?_); go_must (rintro e w1 ⟨rfl, hR1, hc1⟩); go_must (obtain ⟨b0, b1, b2, f0, f1, f2⟩ := cells3 (hc1.blk hbox.out (by omega))); go_must (replace hR1 := Aside0.mk hR1); go_must (replace hc1 := Aside0.mk hc1))
    have hA : pgetA bs i err 4 n = ⟨0, (rrun (pText bs n) [] i err).1, 0, [], (rrun (pText bs n) [] i err).2.1, (rrun (pText bs n) [] i err).2.2⟩ := by unfold pgetA; rw [if_neg (by decide), if_neg (by decide), if_neg (by decide), if_neg (by decide), if_pos rfl]
    have h5 := set3 (x := .int .u64 0) (y := .string (strOfNums (rrun (pText bs n) [] i err).1)) (z := .int .i64 0) (hc1.out.blk hbox.out (by omega))
    generalize hw5 : World.setCell (World.setCell (World.setCell _ _ _) _ _) _ _ = w5 at h5
    replace h5 := Aside0.mk h5
    clear hw5
    (try simp only [Exit.inBlock, Exit.then])
    refine bodyPost_ret (results_cellS rfl _ _ _ _ rfl _ (run_loadVar_row _ _ _ _ _ _ _ h5.out.1 Try.underlying43 rfl (by kernel_rfl))) rfl ?_
    rw [hA]
    refine ⟨rfl, ?_, ?_⟩
    · exact hR1.out.chg h5.out.2 (fun j hj hFj e => by have := hF.out j hFj; omega)
    · exact ((hc0.out.mono (fun _ _ h => h.elim)).trans hc1.out (fun _ _ h => h)).trans h5.out.2 (fun j hj e => by omega)
  have t4 : (kind == 4) = false := by simpa using g4
  by_cases g5 : kind = 5
  · subst g5
    go_enter Try.func18, Try.ntmps18
    go_wp2_with (go_at_call 51; go_must (refine (ref_Raw _ _ gr i bs err n hn0 hn1 hRd.out).mono ?_); go_must (rintro e w1 ⟨v1, rfl, hr1, hR1, hc1⟩); go_must (obtain ⟨A1, n1, cap1, rfl⟩ := R_sl hr1); go_must (obtain ⟨q1, _, qC1⟩ := Kd.R_reads' hr1); go_must (rw [← q1] at qC1); go_must (have hcv := Kd.C_string (P := Try.prog) (c := cap1) Try.underlying25 Try.underlying5 Try.underlying9 qC1); go_must (replace qC1 := Aside0.mk qC1); go_must (replace q1 := Aside0.mk q1); go_must (replace hr1 := Aside0.mk hr1); go_must (obtain ⟨b0, b1, b2, f0, f1, f2⟩ := cells3 (hc1.blk hbox.out (by omega))); go_must (replace hR1 := Aside0.mk hR1); go_must (replace hc1 := Aside0.mk hc1))
    have hA : pgetA bs i err 5 n = ⟨0, (rrun (pRaw bs n) [] i err).1, 0, (rrun (pRaw bs n) [] i err).1, (rrun (pRaw bs n) [] i err).2.1, (rrun (pRaw bs n) [] i err).2.2⟩ := by unfold pgetA; rw [if_neg (by decide), if_neg (by decide), if_neg (by decide), if_neg (by decide), if_neg (by decide), if_pos rfl]
    have h5 := set3 (x := .int .u64 0) (y := .string (strOfNums (rrun (pRaw bs n) [] i err).1)) (z := .int .i64 0) (hc1.out.blk hbox.out (by omega))
    generalize hw5 : World.setCell (World.setCell (World.setCell _ _ _) _ _) _ _ = w5 at h5
    replace h5 := Aside0.mk h5
    clear hw5
    (try simp only [Exit.inBlock, Exit.then])
    refine bodyPost_ret (results_cellS rfl _ _ _ _ rfl _ (run_loadVar_row _ _ _ _ _ _ _ h5.out.1 Try.underlying43 rfl (by kernel_rfl))) rfl ?_
    rw [hA]
    refine ⟨rfl, ?_, ?_⟩
    · exact hR1.out.chg h5.out.2 (fun j hj hFj e => by have := hF.out j hFj; omega)
    · exact ((hc0.out.mono (fun _ _ h => h.elim)).trans hc1.out (fun _ _ h => h)).trans h5.out.2 (fun j hj e => by omega)
  have t5 : (kind == 5) = false := by simpa using g5
  by_cases g6 : kind = 6
  · subst g6
    have hx : IntKind.u64.wrap (rrun (pCount bs n) 0 i err).1 = (rrun (pCount bs n) 0 i err).1 := by have := rr_count hby.out n hn1 i err; exact wrap_id this.1 (by omega)
    go_enter Try.func18, Try.ntmps18
    go_wp2_with (go_at_call 52; go_must (refine (ref_Count _ _ gr i bs err n hn0 hn1 hRd.out).mono ?_); go_must (rintro e w1 ⟨rfl, hR1, hc1⟩); go_must (obtain ⟨b0, b1, b2, f0, f1, f2⟩ := cells3 (hc1.blk hbox.out (by omega))); go_must (replace hR1 := Aside0.mk hR1); go_must (replace hc1 := Aside0.mk hc1))
    have hA : pgetA bs i err 6 n = ⟨(rrun (pCount bs n) 0 i err).1, [], 0, [], (rrun (pCount bs n) 0 i err).2.1, (rrun (pCount bs n) 0 i err).2.2⟩ := by unfold pgetA; rw [if_neg (by decide), if_neg (by decide), if_neg (by decide), if_neg (by decide), if_neg (by decide), if_neg (by decide), if_pos rfl]
    have h5 := set3 (x := .int .u64 (rrun (pCount bs n) 0 i err).1) (y := .string (⟨#[]⟩)) (z := .int .i64 0) (hc1.out.blk hbox.out (by omega))
    generalize hw5 : World.setCell (World.setCell (World.setCell _ _ _) _ _) _ _ = w5 at h5
    replace h5 := Aside0.mk h5
    clear hw5
    (try simp only [Exit.inBlock, Exit.then])
    refine bodyPost_ret (results_cellS rfl _ _ _ _ rfl _ (run_loadVar_row _ _ _ _ _ _ _ h5.out.1 Try.underlying43 rfl (by kernel_rfl))) rfl ?_
    rw [hA]
    refine ⟨rfl, ?_, ?_⟩
    · exact hR1.out.chg h5.out.2 (fun j hj hFj e => by have := hF.out j hFj; omega)
    · exact ((hc0.out.mono (fun _ _ h => h.elim)).trans hc1.out (fun _ _ h => h)).trans h5.out.2 (fun j hj e => by omega)
  have t6 : (kind == 6) = false := by simpa using g6
  by_cases g7 : kind = 7
  · subst g7
    have hx : IntKind.u64.wrap ((bs.length : Int) - i) = ((bs.length : Int) - i) := wrap_id (by omega) (by omega)
    go_enter Try.func18, Try.ntmps18
    go_wp2_with (go_at_call 53; go_must (refine (ref_Left _ _ gr i bs err hRd.out).mono ?_); go_must (rintro e w1 ⟨rfl, hd1⟩); go_must (have hc1 := chg_drawn0 (S := fun k => k = gr) hd1); go_must (have hR1 := hRd.out.chg (chg_drawn0 (S := fun _ => False) hd1) (fun _ _ _ h => h)); go_must (clear hd1); go_must (obtain ⟨b0, b1, b2, f0, f1, f2⟩ := cells3 (hc1.blk hbox.out (by omega))); go_must (replace hR1 := Aside0.mk hR1); go_must (replace hc1 := Aside0.mk hc1))
    have hA : pgetA bs i err 7 n = ⟨((bs.length : Int) - i), [], 0, [], i, err⟩ := by unfold pgetA; rw [if_neg (by decide), if_neg (by decide), if_neg (by decide), if_neg (by decide), if_neg (by decide), if_neg (by decide), if_neg (by decide), if_pos rfl]
    have h5 := set3 (x := .int .u64 ((bs.length : Int) - i)) (y := .string (⟨#[]⟩)) (z := .int .i64 0) (hc1.out.blk hbox.out (by omega))
    generalize hw5 : World.setCell (World.setCell (World.setCell _ _ _) _ _) _ _ = w5 at h5
    replace h5 := Aside0.mk h5
    clear hw5
    (try simp only [Exit.inBlock, Exit.then])
    refine bodyPost_ret (results_cellS rfl _ _ _ _ rfl _ (run_loadVar_row _ _ _ _ _ _ _ h5.out.1 Try.underlying43 rfl (by kernel_rfl))) rfl ?_
    rw [hA]
    refine ⟨rfl, ?_, ?_⟩
    · exact hR1.out.chg h5.out.2 (fun j hj hFj e => by have := hF.out j hFj; omega)
    · exact ((hc0.out.mono (fun _ _ h => h.elim)).trans hc1.out (fun _ _ h => h)).trans h5.out.2 (fun j hj e => by omega)
  have t7 : (kind == 7) = false := by simpa using g7
  by_cases g8 : kind = 8
  · subst g8
    obtain ⟨Ar, cr, hbr, _⟩ := hRd.out
    obtain ⟨r0, r1, r2, g0', g1', g2'⟩ := cells3 hbr
    obtain ⟨b0, b1, b2, f0, f1, f2⟩ := cells3 hbox.out
    clear hbr
    go_enter Try.func18, Try.ntmps18
    go_wp2
    have hA : pgetA bs i err 8 n = ⟨0, [], err, [], i, err⟩ := by unfold pgetA; rw [if_neg (by decide), if_neg (by decide), if_neg (by decide), if_neg (by decide), if_neg (by decide), if_neg (by decide), if_neg (by decide), if_neg (by decide), if_pos rfl]
    (try simp only [Exit.inBlock, Exit.then])
    refine bodyPost_ret (results_cellS rfl _ _ _ _ rfl _ (run_loadVar_row _ _ _ _ _ _ _ (heap_alloc_new2 w _ _) Try.underlying43 rfl (by kernel_rfl))) rfl ?_
    rw [hA]
    refine ⟨rfl, hwA.out.chg (((Chg.refl (fun _ => False) w).alloc _).alloc _) (fun _ _ _ h => h), ((Chg.refl _ w).alloc _).alloc _⟩
  have t8 : (kind == 8) = false := by simpa using g8
  go_enter Try.func18, Try.ntmps18
  go_wp2_with (go_at_call 54; go_must (refine (ref_End _ _ gr i bs err hRd.out).mono ?_); go_must (rintro e w1 ⟨rfl, hd1⟩); go_must (have hc1 := chg_drawn0 (S := fun k => k = gr) hd1); go_must (have hR1 := hRd.out.chg (chg_drawn0 (S := fun _ => False) hd1) (fun _ _ _ h => h)); go_must (clear hd1); go_must (obtain ⟨b0, b1, b2, f0, f1, f2⟩ := cells3 (hc1.blk hbox.out (by omega))); go_must (replace hR1 := Aside0.mk hR1); go_must (replace hc1 := Aside0.mk hc1))
  have hA : pgetA bs i err kind n = ⟨0, [], (rEnd bs i err), [], i, err⟩ := by unfold pgetA; rw [if_neg g0, if_neg g1, if_neg g2, if_neg g3, if_neg g4, if_neg g5, if_neg g6, if_neg g7, if_neg g8]
  have h5 := set3 (x := .int .u64 0) (y := .string (⟨#[]⟩)) (z := .int .i64 (rEnd bs i err)) (hc1.out.blk hbox.out (by omega))
  generalize hw5 : World.setCell (World.setCell (World.setCell _ _ _) _ _) _ _ = w5 at h5
  replace h5 := Aside0.mk h5
  clear hw5
  (try simp only [Exit.inBlock, Exit.then])
  refine bodyPost_ret (results_cellS rfl _ _ _ _ rfl _ (run_loadVar_row _ _ _ _ _ _ _ h5.out.1 Try.underlying43 rfl (by kernel_rfl))) rfl ?_
  rw [hA]
  refine ⟨rfl, ?_, ?_⟩
  · exact hR1.out.chg h5.out.2 (fun j hj hFj e => by have := hF.out j hFj; omega)
  · exact ((hc0.out.mono (fun _ _ h => h.elim)).trans hc1.out (fun _ _ h => h)).trans h5.out.2 (fun j hj e => by omega)

end Go.Proofs.Ytbheebcjbolboaa.K

namespace Go.Proofs.Ytbheebcjbolboaa.K
open Go.RowKit Go.Proofs.YtbheebcjbolboaaW.PrintWords Go.Proofs.YtbheebcjbolboaaW.PrintLast Go.Proofs.YtbheebcjbolboaaW.PrintMore
set_option linter.unusedVariables false
set_option linter.unusedSimpArgs false
set_option maxRecDepth 100000

theorem law_closes (w : World) (F1 F2 : Nat → Prop) (g1 g2 i : Nat) (bs : List Int) (err : Int) (h1 : Rd w F1 g1 bs i err) (h2 : RR w F2 g2 bs i err) :
    Calls Try.prog 21 #[.pointer (some ⟨g1, 0, none⟩), .pointer (some ⟨g2, 0, none⟩)] w fun e w' => e = .returned (.bool true) ∧ Drawn0 w w' := by
  have h1A := Aside0.mk h1
  have h2A := Aside0.mk h2
  clear h1 h2
  go_enter Try.func21, Try.ntmps21
  go_wp2
  go_loopw [5] (fun j wr => ∃ k : Nat, j = .int .i64 k ∧ k ≤ 2 ∧ Aside0 (∃ m, wr = w.drewN m)) (fun j _ => 2 - (intOf j).toNat)
  case atStart => exact ⟨0, rfl, by omega, ⟨0, rfl⟩⟩
  case round =>
    obtain ⟨k, rfl, hk, hD⟩ := hrel
    by_cases hlt : k < 2
    · have hk0 : (0 : Int) ≤ k := by omega
      have hk1 : (k : Int) < 2 := by omega
      have hA : ∀ m, Rd (wr.drewN m) F1 g1 bs i err := fun m => by obtain ⟨n, rfl⟩ := hD.out; exact h1A.out.chg (((Chg.refl (fun _ => False) w).drewN n).drewN m) (fun _ _ _ h => h)
      have hB : ∀ m, RR (wr.drewN m) F2 g2 bs i err := fun m => by obtain ⟨n, rfl⟩ := hD.out; exact h2A.out.chg (((Chg.refl (fun _ => False) w).drewN n).drewN m) (fun _ _ _ h => h)
      have q1 := Aside0.mk (fun m => Calls.quiet_of ((rd_Left (wr.drewN m) F1 g1 i bs err (hA m)).mono (fun e w' h => ⟨h.1, by obtain ⟨⟨k, rfl⟩⟩ := h.2; exact ⟨k, rfl⟩⟩)))
      have q2 := Aside0.mk (fun m => Calls.quiet_of ((ref_Left (wr.drewN m) F2 g2 i bs err (hB m)).mono (fun e w' h => ⟨h.1, by obtain ⟨⟨k, rfl⟩⟩ := h.2; exact ⟨k, rfl⟩⟩)))
      have q3 := Aside0.mk (fun m => Calls.quiet_of_same ((rd_Err (wr.drewN m) F1 g1 i bs err (hA m)).mono (fun e w' h => ⟨h.1, h.2.symm⟩)))
      have q4 := Aside0.mk (fun m => Calls.quiet_of_same (kit_num (wr.drewN m) err))
      have q5 := Aside0.mk (fun m => Calls.quiet_of_same (kit_num (wr.drewN m) (rEnd bs i err)))
      have q6 := Aside0.mk (fun m => Calls.quiet_of ((rd_End (wr.drewN m) F1 g1 i bs err (hA m)).mono (fun e w' h => ⟨h.1, by obtain ⟨⟨k, rfl⟩⟩ := h.2; exact ⟨k, rfl⟩⟩)))
      have q7 := Aside0.mk (fun m => Calls.quiet_of ((ref_End (wr.drewN m) F2 g2 i bs err (hB m)).mono (fun e w' h => ⟨h.1, by obtain ⟨⟨k, rfl⟩⟩ := h.2; exact ⟨k, rfl⟩⟩)))
      obtain ⟨A2, c2, hb2, _⟩ := hB 0
      obtain ⟨x0, x1, x2, f0, f1, f2⟩ := cells3 (w := wr) hb2
      clear hA hB hb2
      go_wp2
      go_quiet (first | (go_at_call 25; exact q1.out _) | (go_at_call 53; exact q2.out _) | (go_at_call 24; exact q3.out _) | (go_at_call 56; first | exact q4.out _ | exact q5.out _) | (go_at_call 26; exact q6.out _) | (go_at_call 54; exact q7.out _))
      go_wp2
      go_roundw
      case measure => first | (simp [intOf]; done) | (simp [intOf]; omega)
      case rel => exact ⟨k + 1, by go_num, by omega, ⟨by obtain ⟨n, hn⟩ := hD.out; exact ⟨_, by rw [hn, World.drewN_drewN]⟩⟩⟩
    · obtain rfl : k = 2 := by omega
      go_wp2
      go_ret
      exact ⟨rfl, ⟨hD.out⟩⟩
theorem R_CW {α : Type} {d : Kd α} {e n c : Nat} {w : World} {ok : Nat → Prop} {A : Option Addr} {xs : List α} (h : d.R e w 0 ok (.slice A n c) xs) : d.C w A n xs := by
  obtain ⟨h1, _, h3⟩ := Kd.R_reads' h
  rw [← h1] at h3
  exact h3
theorem u8_cells {w : World} {g n : Nat} {cur : Array Value} {t : TypeId} {l : List Int} (hC : Kd.C (Kd.int .u8) w (some ⟨g, 0, none⟩) n l) (h : w.heap[g]? = some (.cells cur t (0, 0))) : ∀ j, j < n → ∃ b, cur[j]? = some (.int .u8 b) := by
  intro j hj
  obtain ⟨ad, e, hc⟩ := byte_at hC j hj
  injection e with e
  subst e
  have hadd : (⟨g, 0, none⟩ : Addr).add j = ⟨g, j, none⟩ := by unfold Addr.add; split <;> simp_all
  rw [hadd, blk_cell h] at hc
  exact ⟨_, hc⟩
theorem own_cellsW {w : World} {ok : Nat → Prop} {A : Option Addr} {n c : Nat} {l : List Int} (h : Kd.R (Kd.int .u8) 5 w 0 ok (.slice A n c) l) (h0 : 0 < l.length) : ∃ g cur, A = some ⟨g, 0, none⟩ ∧ n = l.length ∧ n ≤ c ∧ w.heap[g]? = some (.cells cur 5 (0, 0)) ∧ cur.size = c ∧ ok g := by
  obtain ⟨hok, inner, ho, _⟩ := h
  rcases ho.2 with ⟨_, hn⟩ | ⟨g, cap, cur, hv, _, hg, hnc, _, hcs, _⟩
  · omega
  · injection hv with h1 h2 h3
    subst h1 h2 h3
    have e1 : (Kd.int .u8).sz = 1 := rfl
    rw [e1, Nat.mul_one] at hcs
    exact ⟨g, cur, rfl, rfl, hnc, hg, hcs, hok g rfl⟩
theorem any_step {wr : World} {gx k m n : Nat} {cur : Array Value} {t : TypeId} (g1 : wr.heap[gx]? = some (.cells cur t (0, 0))) (g2 : cur.size = m) (g3 : ∀ j, j < n → ∃ b, cur[j]? = some (.int .u8 b)) (hk : k < m) (v : Int) :
    ((wr.setCell ⟨gx, k, none⟩ (.int .u8 v)).heap[gx]? = some (.cells (cur.setIfInBounds k (.int .u8 v)) t (0, 0)) ∧ (cur.setIfInBounds k (.int .u8 v)).size = m ∧ ∀ j, j < n → ∃ b, (cur.setIfInBounds k (.int .u8 v))[j]? = some (.int .u8 b)) := by
  refine ⟨blk_set g1 _ _, by simpa using g2, fun j hj => ?_⟩
  rw [Array.getElem?_setIfInBounds]
  by_cases hjk : k = j
  · subst hjk
    rw [if_pos rfl, if_pos (by omega)]
    exact ⟨_, rfl⟩
  · rw [if_neg hjk]
    exact g3 j hj
theorem law_opened (w : World) (A : Option Addr) (n cap : Nat) (bs : List Int) (hC : Kd.C (Kd.int .u8) w A n bs) (hby : ∀ c ∈ bs, 0 ≤ c ∧ c < 256) (hn : bs.length ≤ 140737488355000) :
    Calls Try.prog 15 #[.slice A n cap] w fun e w' => ∃ g, e = .returned (.pointer (some ⟨g, 0, none⟩)) ∧ Rd w' (New (fun _ => False) w w') g bs 0 0 ∧ Chg (fun _ => False) w w' := by
  have e0 := hC.1
  subst e0
  have hCA := Aside0.mk hC
  have hbyA := Aside0.mk hby
  clear hC hby
  go_enter Try.func15, Try.ntmps15
  go_wp2_with (first | (go_at_call 43; go_must (refine (kit_Lent _ A bs.length cap bs hCA.out (by omega)).mono ?_); go_must (rintro e w1 ⟨v1, rfl, hr1, hc1⟩); go_must (obtain ⟨A1, n1, cap1, rfl⟩ := R_sl hr1); go_must (obtain ⟨gx, cur0, rfl, q2, hle2, hb1, hs1, hg1⟩ := own_cellsW hr1 (by simp [marksB])); go_must (rw [List.length_append, marksB_length] at q2); go_must (subst q2); go_must (have p1 := Aside0.mk (R_CW hr1)); go_must (have i1 := Aside0.mk (by have := R_CW (Kd.R_take hr1 (m := bs.length) (by simp)); rw [List.take_left] at this; exact this)); go_must (clear hr1); go_must (have ha1 := Aside0.mk (u8_cells p1.out hb1)); go_must (have hle3 : bs.length ≤ cap1 := by omega); go_must (replace hb1 := Aside0.mk hb1); go_must (replace hs1 := Aside0.mk hs1); go_must (replace hg1 := Aside0.mk hg1); go_must (replace hc1 := Aside0.mk hc1)) | (go_at_call 22; go_must (refine (rd_new _ _ bs.length cap1 bs i1.out (by omega) hbyA.out).mono ?_); go_must (rintro e w2 ⟨g, rfl, hgN, hR2, hc2⟩); go_must (have p2 := Aside0.mk (C_chg p1.out (hc2.below (fun _ _ h => h)))); go_must (have hb2 := Aside0.mk (hc2.blk hb1.out (fun h => h))); go_must (replace hR2 := Aside0.mk hR2); go_must (replace hgN := Aside0.mk hgN); go_must (replace hc2 := Aside0.mk hc2); go_must (clear p1 i1 hb1)) | (go_at_call 44; go_must (refine (kit_Kept _ _ A _ cap1 bs.length cap bs p2.out (C_chg hCA.out ((hc1.out.trans hc2.out (fun _ _ h => h)).below (fun _ _ h => h))) (by omega)).mono ?_); go_must (rintro e w3 ⟨rfl, hc3⟩); go_must (have hb3 := Aside0.mk (hc3.blk hb2.out (fun h => h))); go_must (have hR3 := Aside0.mk (hR2.out.chg hc3 (fun _ _ _ h => h))); go_must (replace hc3 := Aside0.mk hc3); go_must (clear p2 hb2 hR2)))
  go_loopw [5] (fun i wr => ∃ (k : Nat) (cur : Array Value), i = .int .i64 k ∧ k ≤ bs.length + 64 ∧ Aside0 (wr.heap[gx]? = some (.cells cur 5 (0, 0)) ∧ cur.size = cap1 ∧ ∀ j, j < bs.length + 64 → ∃ b, cur[j]? = some (.int .u8 b)) ∧ Aside0 (Chg (fun b => b = gx) w3 wr)) (fun i _ => bs.length + 64 - (intOf i).toNat)
  case atStart => exact ⟨0, cur0, rfl, by omega, ⟨hb3.out, hs1.out, ha1.out⟩, ⟨Chg.refl _ _⟩⟩
  case round =>
    obtain ⟨k, cur, rfl, hk, hX, hCh⟩ := hrel
    by_cases hlt : k < bs.length + 64
    · have hk0 : (0 : Int) ≤ k := by omega
      have hk1 : (k : Int) < (bs.length : Int) + 64 := by omega
      obtain ⟨g1, g2, g3⟩ := hX.out
      obtain ⟨u0, hu0⟩ := g3 k hlt
      have y0 : wr.cell? ⟨gx, k, none⟩ = some (.int .u8 u0) := by rw [blk_cell g1 k]; exact hu0
      have z0 : wr.frozen? ⟨gx, k, none⟩ = false := blk_frozen g1 _
      have hkc : Aside0 (k < cap1) := ⟨by omega⟩
      clear g1 g2 g3 hu0
      go_wp2
      go_roundw
      case measure => first | (simp [intOf]; done) | (simp [intOf]; omega)
      case rel => exact ⟨k + 1, _, by go_num, by omega, ⟨any_step hX.out.1 hX.out.2.1 hX.out.2.2 hkc.out _⟩, ⟨hCh.out.trans ((Chg.refl (fun b => b = gx) wr).setCell (p := ⟨gx, k, none⟩) (fun _ => rfl) _) (fun _ _ h => h)⟩⟩
    · obtain rfl : k = bs.length + 64 := by omega
      go_wp2
      go_ret
      have s1 := hg1.out
      have s2 := hc1.out.size
      have s3 := hc2.out.size
      have s4 := hc3.out.size
      have s5 := hCh.out.size
      simp only [New, false_or] at s1
      refine ⟨_, rfl, ?_, ?_⟩
      · refine (hR3.out.chg hCh.out (fun j hj hF e => ?_)).mono (fun j hj hF => ?_)
        · rcases hF with h | h
          · exact h
          · omega
        · rcases hF with h | h
          · exact h.elim
          · right; omega
      · exact ((hc1.out.trans hc2.out (fun _ _ h => h)).trans hc3.out (fun _ _ h => h)).trans (hCh.out) (fun j hj e => by omega)

end Go.Proofs.Ytbheebcjbolboaa.K

namespace Go.Proofs.Ytbheebcjbolboaa.K
open Go.RowKit Go.Proofs.YtbheebcjbolboaaW.PrintWords Go.Proofs.YtbheebcjbolboaaW.PrintLast Go.Proofs.YtbheebcjbolboaaW.PrintMore
set_option linter.unusedVariables false
set_option linter.unusedSimpArgs false
set_option maxRecDepth 100000

/-- The two readers, the document's two, the row that names these. -/
structure SW (w0 : World) (a b c d e g1 g2 r1 r2 : Nat) (bs cs : List Int) (wr : World) (i1 i2 : Nat) (e1 e2 : Int) : Prop where
  k1 : Rd wr (fun j => a ≤ j ∧ j < b) g1 bs i1 e1
  k2 : Rd wr (fun j => b ≤ j ∧ j < c) g2 cs i2 e2
  q1 : RR wr (fun j => c ≤ j ∧ j < d) r1 bs i1 e1
  q2 : RR wr (fun j => d ≤ j ∧ j < e) r2 cs i2 e2
  arr : wr.heap[e]? = some (.cells #[.pointer (some ⟨r1, 0, none⟩), .pointer (some ⟨r2, 0, none⟩)] 37 (0, 0))
  bel : Chg (fun _ => False) w0 wr
  le : w0.heap.size ≤ a ∧ a ≤ b ∧ b ≤ c ∧ c ≤ d ∧ d ≤ e ∧ e < wr.heap.size
theorem Rd.own {w : World} {F : Nat → Prop} {g i : Nat} {bs : List Int} {err : Int} (h : Rd w F g bs i err) : F g := by obtain ⟨_, _, _, h, _⟩ := h; exact h
theorem RR.own {w : World} {F : Nat → Prop} {g i : Nat} {bs : List Int} {err : Int} (h : RR w F g bs i err) : F g := by obtain ⟨_, _, _, h, _⟩ := h; exact h
section
variable {w0 wr : World} {a b c d e g1 g2 r1 r2 i1 i2 j : Nat} {bs cs : List Int} {e1 e2 f : Int}
theorem SW.chg {S : Nat → Prop} {w' : World} (h : SW w0 a b c d e g1 g2 r1 r2 bs cs wr i1 i2 e1 e2) (hc : Chg S wr w') (hS : ∀ k, k < wr.heap.size → S k → e < k) : SW w0 a b c d e g1 g2 r1 r2 bs cs w' i1 i2 e1 e2 := by
  obtain ⟨l0, l1, l2, l3, l4, l5⟩ := h.le
  have hz := hc.size
  exact ⟨h.k1.chg hc (fun k hk h1 h2 => by have := hS k hk h2; omega), h.k2.chg hc (fun k hk h1 h2 => by have := hS k hk h2; omega), h.q1.chg hc (fun k hk h1 h2 => by have := hS k hk h2; omega), h.q2.chg hc (fun k hk h1 h2 => by have := hS k hk h2; omega),
    hc.blk h.arr (fun h2 => by have := hS e (by omega) h2; omega), h.bel.trans hc (fun k hk h2 => by have h3 := h.bel.size; have := hS k (by omega) h2; omega), ⟨l0, l1, l2, l3, l4, by omega⟩⟩
/-- A round with the first reader. -/
theorem SW.go1 {S : Nat → Prop} {wA w5 wB w6 wZ : World} (h : SW w0 a b c d e g1 g2 r1 r2 bs cs wr i1 i2 e1 e2) (hA : Chg (fun _ => False) wr wA) (h5 : RR w5 (fun j => c ≤ j ∧ j < d) r1 bs j f) (c5 : Chg (fun k => k = r1) wA w5)
    (hB : Chg (fun _ => False) w5 wB) (h6 : Rd w6 (fun j => a ≤ j ∧ j < b) g1 bs j f) (c6 : Chg (fun k => k = g1) wB w6) (hZ : Chg S w6 wZ) (hS : ∀ k, S k → w5.heap.size ≤ k) :
    SW w0 a b c d e g1 g2 r1 r2 bs cs wZ j i2 f e2 ∧ Chg (fun k => k ≤ e) wr wZ := by
  obtain ⟨l0, l1, l2, l3, l4, l5⟩ := h.le
  have o1 := h.k1.own
  have o2 := h.q1.own
  have s1 := hA.size; have s2 := c5.size; have s3 := hB.size; have s4 := c6.size; have s5 := hZ.size; have s0 := h.bel.size
  have n5 : Chg (fun k => k = r1) wr w5 := (hA.mono (fun _ _ h => h.elim)).trans c5 (fun _ _ h => h)
  have n6 : Chg (fun k => k = g1) w5 w6 := (hB.mono (fun _ _ h => h.elim)).trans c6 (fun _ _ h => h)
  have n7 : Chg (fun k => k = r1 ∨ k = g1) wr w6 := (n5.mono (fun _ _ h => .inl h)).trans n6 (fun _ _ h => .inr h)
  have n8 : Chg (fun k => k = r1 ∨ k = g1) wr wZ := n7.trans hZ (fun k hk h => by have := hS k h; omega)
  refine ⟨⟨h6.chg hZ (fun k hk h1 h2 => by have := hS k h2; omega), h.k2.chg n8 (fun k hk h1 h2 => by omega), (h5.chg n6 (fun k hk h1 h2 => by omega)).chg hZ (fun k hk h1 h2 => by have := hS k h2; omega), h.q2.chg n8 (fun k hk h1 h2 => by omega), n8.blk h.arr (fun h2 => by omega), h.bel.trans n8 (fun k hk h2 => by omega), ⟨l0, l1, l2, l3, l4, by omega⟩⟩, n8.mono (fun k hk h2 => by omega)⟩
/-- A round with the second. -/
theorem SW.go2 {S : Nat → Prop} {wA w5 wB w6 wZ : World} (h : SW w0 a b c d e g1 g2 r1 r2 bs cs wr i1 i2 e1 e2) (hA : Chg (fun _ => False) wr wA) (h5 : RR w5 (fun j => d ≤ j ∧ j < e) r2 cs j f) (c5 : Chg (fun k => k = r2) wA w5)
    (hB : Chg (fun _ => False) w5 wB) (h6 : Rd w6 (fun j => b ≤ j ∧ j < c) g2 cs j f) (c6 : Chg (fun k => k = g2) wB w6) (hZ : Chg S w6 wZ) (hS : ∀ k, S k → w5.heap.size ≤ k) :
    SW w0 a b c d e g1 g2 r1 r2 bs cs wZ i1 j e1 f ∧ Chg (fun k => k ≤ e) wr wZ := by
  obtain ⟨l0, l1, l2, l3, l4, l5⟩ := h.le
  have o1 := h.k2.own
  have o2 := h.q2.own
  have s1 := hA.size; have s2 := c5.size; have s3 := hB.size; have s4 := c6.size; have s5 := hZ.size; have s0 := h.bel.size
  have n5 : Chg (fun k => k = r2) wr w5 := (hA.mono (fun _ _ h => h.elim)).trans c5 (fun _ _ h => h)
  have n6 : Chg (fun k => k = g2) w5 w6 := (hB.mono (fun _ _ h => h.elim)).trans c6 (fun _ _ h => h)
  have n7 : Chg (fun k => k = r2 ∨ k = g2) wr w6 := (n5.mono (fun _ _ h => .inl h)).trans n6 (fun _ _ h => .inr h)
  have n8 : Chg (fun k => k = r2 ∨ k = g2) wr wZ := n7.trans hZ (fun k hk h => by have := hS k h; omega)
  refine ⟨⟨h.k1.chg n8 (fun k hk h1 h2 => by omega), h6.chg hZ (fun k hk h1 h2 => by have := hS k h2; omega), h.q1.chg n8 (fun k hk h1 h2 => by omega), (h5.chg n6 (fun k hk h1 h2 => by omega)).chg hZ (fun k hk h1 h2 => by have := hS k h2; omega), n8.blk h.arr (fun h2 => by omega), h.bel.trans n8 (fun k hk h2 => by omega), ⟨l0, l1, l2, l3, l4, by omega⟩⟩, n8.mono (fun k hk h2 => by omega)⟩
end
/-- What was told: rows of bytes that lie apart, behind block e, in a row of their own. -/
structure TD (e : Nat) (wr : World) (tv : Option Addr × Nat × Nat) (ts : List (Option Addr × Nat × Nat)) : Prop where
  gr : RowS wr tv ts
  gn : ∀ b, (slv tv).ownBlock = some b → e < b
  rows : ∀ (j : Nat) (p : Option Addr × Nat × Nat), ts[j]? = some p → (∃ xs, RowB wr p xs) ∧ p.2.1 ≤ 1048576
  own : ∀ (j : Nat) (p : Option Addr × Nat × Nat), ts[j]? = some p → ∀ b, (slv p).ownBlock = some b → e < b
  dj : Disj ts
theorem TD.nil (e : Nat) (wr : World) : TD e wr (none, 0, 0) [] :=
  ⟨Kd.R_nil _ _ _ _ _, fun b h => by simp [slv, Value.ownBlock] at h, fun j p h => by simp at h, fun j p h => by simp at h, fun j k p q b h => by simp at h⟩
theorem TD.chg {e : Nat} {wr w' : World} {S : Nat → Prop} {tv : Option Addr × Nat × Nat} {ts : List (Option Addr × Nat × Nat)} (h : TD e wr tv ts) (hc : Chg S wr w') (hS : ∀ k, k < wr.heap.size → S k → k ≤ e) : TD e w' tv ts :=
  ⟨R_chg h.gr hc (fun b hb ho hs => by have := hS b hb hs; have := h.gn b ho.symm; omega), h.gn, fun j p hp => by
    obtain ⟨⟨xs, h1⟩, h2⟩ := h.rows j p hp
    exact ⟨⟨xs, row_chg h1 hc (fun b hb hs => by have := hS b (row_lt h1 b hb) hs; have := h.own j p hp b hb; omega)⟩, h2⟩, h.own, h.dj⟩
/-- One more is told. -/
theorem TD.snoc {e : Nat} {wr w5 w6 w7 : World} {tv tv' p : Option Addr × Nat × Nat} {ts : List (Option Addr × Nat × Nat)} {xs : List Int} (h : TD e wr tv ts) (he : e < wr.heap.size) (c6 : Chg (fun k => k ≤ e) wr w6)
    (hp : Kd.R (Kd.int .u8) 5 w6 0 (New (fun _ => False) w5 w6) (slv p) xs) (h5 : wr.heap.size ≤ w5.heap.size) (hl : xs.length ≤ 1048576)
    (cY : Chg (fun b => (slv tv).ownBlock = some b) w6 w7) (hr : Kd.R kSl 25 w7 0 (New (fun b => (slv tv).ownBlock = some b) w6 w7) (slv tv') (ts ++ [p])) : TD e w7 tv' (ts ++ [p]) := by
  have h6 := h.chg c6 (fun k _ hk => hk)
  have hpB : RowB w6 p xs := Kd.R_tight rfl hp
  have hpn : ∀ b, (slv p).ownBlock = some b → wr.heap.size ≤ b := fun b hb => by
    rcases hp.1 b hb with h | h
    · exact h.elim
    · omega
  have kp : ∀ {r : Option Addr × Nat × Nat} {ys : List Int}, RowB w6 r ys → RowB w7 r ys := fun hx => row_chg hx cY (fun b hb h' => rowS_ne h6.gr hx b hb h')
  refine ⟨Kd.R_tight rfl hr, fun b hb => ?_, fun j q hq => ?_, fun j q hq b hb => ?_, disj_snoc h.dj (fun b hb j q hq hqb => ?_)⟩
  · rcases hr.1 b hb with h1 | h1
    · exact h.gn b h1
    · have := c6.size; omega
  · rcases Nat.lt_or_ge j ts.length with hj | hj
    · rw [List.getElem?_append_left hj] at hq
      obtain ⟨⟨ys, h1⟩, h2⟩ := h6.rows j q hq
      exact ⟨⟨ys, kp h1⟩, h2⟩
    · rw [List.getElem?_append_right hj] at hq
      have hj0 : j - ts.length = 0 := by
        have := (List.getElem?_eq_some_iff.1 hq).1
        simp at this
        omega
      rw [hj0] at hq
      simp at hq
      subst hq
      exact ⟨⟨xs, kp hpB⟩, by rw [hpB.len]; exact hl⟩
  · rcases Nat.lt_or_ge j ts.length with hj | hj
    · rw [List.getElem?_append_left hj] at hq
      exact h.own j q hq b hb
    · rw [List.getElem?_append_right hj] at hq
      have hj0 : j - ts.length = 0 := by
        have := (List.getElem?_eq_some_iff.1 hq).1
        simp at this
        omega
      rw [hj0] at hq
      simp at hq
      subst hq
      have := hpn b hb
      omega
  · obtain ⟨⟨ys, h1⟩, _⟩ := h.rows j q hq
    have := row_lt h1 b hqb
    have := hpn b hb
    omega
/-- All that was told lies apart. -/
theorem td_Apart {e : Nat} {wr : World} {A : Option Addr} {n c : Nat} {ts : List (Option Addr × Nat × Nat)} (h : TD e wr (A, n, c) ts) (hn : ts.length ≤ 1048576) :
    Calls Try.prog 20 #[.slice A n c] wr fun ev w' => ev = .returned (.bool true) ∧ Chg (fun k => e < k) wr w' := by
  have hC := R_Cs h.gr
  have hN : n = ts.length := hC.1.symm
  have hform : 0 < n → ∃ B, A = some ⟨B, 0, none⟩ := fun h0 => by
    obtain ⟨g, cap, e1, _⟩ := Kd.R_form h.gr (by omega)
    unfold slv at e1
    injection e1 with e1 _ _
    exact ⟨g, e1⟩
  obtain ⟨B, hB⟩ : ∃ B, 0 < n → A = some ⟨B, 0, none⟩ := by
    by_cases h0 : 0 < n
    · obtain ⟨B, hB⟩ := hform h0; exact ⟨B, fun _ => hB⟩
    · exact ⟨0, fun h => absurd h h0⟩
  refine (kit_Apart wr A n c B ts hN.symm (by omega) hB (fun k p hp => ?_) (fun ho => ?_) (fun k p hp => ?_) h.dj).mono ?_
  · have hk : k < n := by have := (List.getElem?_eq_some_iff.1 hp).1; omega
    obtain ⟨ad, q, e1, e2, e3⟩ := sl_at hC k hk
    rw [hp] at e2
    injection e2 with e2
    subst e2
    simp only at e1
    rw [hB (by omega)] at e1
    injection e1 with e1
    subst e1
    rw [add_plain] at e3
    exact e3
  · obtain ⟨k, p, hp, hb⟩ := ho
    obtain ⟨⟨xs, h1⟩, _⟩ := h.rows k p hp
    have hk : 0 < n := by have := (List.getElem?_eq_some_iff.1 hp).1; omega
    have hA := hB hk
    subst hA
    exact rowS_ne h.gr h1 B hb rfl
  · obtain ⟨h1, h2⟩ := h.rows k p hp
    exact ⟨by omega, h1⟩
  · rintro ev w' ⟨he, hc⟩
    exact ⟨he, hc.mono (fun b _ ⟨k, p, hp, hb⟩ => h.own k p hp b hb)⟩
/-- One list alone. -/
theorem one_Apart {w5 W : World} {A : Option Addr} {n c H : Nat} {xs : List Int} {t : TypeId} (hH : W.heap.size = H) (hp : Kd.R (Kd.int .u8) 5 W 0 (New (fun _ => False) w5 W) (.slice A n c) xs) (hl : xs.length ≤ 1048576) :
    Calls Try.prog 20 #[.slice (some ⟨H, 0, none⟩) 1 1] (W.alloc (.cells #[.slice A n c] t)) fun ev w' => ev = .returned (.bool true) ∧ Chg (fun k => w5.heap.size ≤ k) (W.alloc (.cells #[.slice A n c] t)) w' := by
  subst hH
  have hB : RowB W (A, n, c) xs := Kd.R_tight rfl hp
  have hlt := row_lt hB
  have hnew : ∀ b, (slv (A, n, c)).ownBlock = some b → w5.heap.size ≤ b := fun b hb => (hp.1 b hb).elim False.elim And.left
  refine (kit_Apart _ _ 1 1 W.heap.size [(A, n, c)] rfl (by decide) (fun _ => rfl) (fun k p hk => ?_) (fun ho => ?_) (fun k p hk => ?_) (fun j k p q b hj hk hjk => ?_)).mono ?_
  · rw [blk_cell (heap_alloc_new W _) k]
    match k, hk with
    | 0, hk => simp at hk; subst hk; rfl
  · obtain ⟨k, p, hk, hb⟩ := ho
    match k, hk with
    | 0, hk => simp at hk; subst hk; exact Nat.lt_irrefl _ (hlt _ hb)
  · match k, hk with
    | 0, hk => simp at hk; subst hk; exact ⟨by have := hB.len; simp only at this ⊢; omega, xs, row_chg hB ((Chg.refl (fun _ => False) W).alloc _) (fun _ _ h => h)⟩
  · match j, k, hj, hk, hjk with
    | 0, 0, _, _, h => exact absurd rfl h
  · rintro ev w' ⟨he, hc⟩
    refine ⟨he, hc.mono (fun b _ ⟨k, p, hk, hb⟩ => ?_)⟩
    match k, hk with
    | 0, hk => simp at hk; subst hk; exact hnew b hb
theorem pgetA_l {bs : List Int} {i : Nat} {err kind n : Int} (hi : i ≤ bs.length) : (pgetA bs i err kind n).l.length ≤ bs.length := by
  unfold pgetA
  split
  · simp
  split
  · simp
  split
  · simp
  split
  · simp
  split
  · simp
  split
  · show (rrun (pRaw bs n) [] i err).1.length ≤ bs.length
    rcases rrun_cases (pRaw bs n) [] i err with ⟨x, j, _, h2, h3⟩ | ⟨c, h1, _⟩
    · rw [h3]
      unfold pRaw at h2
      split at h2
      · cases h2
      · unfold pTake at h2
        split at h2
        · simp only [Except.ok.injEq, Prod.mk.injEq] at h2
          rw [← h2.1]
          simp
          omega
        · cases h2
    · rw [h1]; simp
  split
  · simp
  split
  · simp
  split <;> simp

end Go.Proofs.Ytbheebcjbolboaa.K

namespace Go.Proofs.Ytbheebcjbolboaa.K
open Go.RowKit Go.Proofs.YtbheebcjbolboaaW.PrintWords Go.Proofs.YtbheebcjbolboaaW.PrintLast Go.Proofs.YtbheebcjbolboaaW.PrintMore
set_option linter.unusedVariables false
set_option linter.unusedSimpArgs false
set_option maxRecDepth 100000

theorem cells2 {w : World} {g : Nat} {a b : Value} {t : TypeId} (h : w.heap[g]? = some (.cells #[a, b] t (0, 0))) :
    w.cell? ⟨g, 0, none⟩ = some a ∧ w.cell? ⟨g, 1, none⟩ = some b ∧ w.frozen? ⟨g, 0, none⟩ = false ∧ w.frozen? ⟨g, 1, none⟩ = false := ⟨blk_cell h 0, blk_cell h 1, blk_frozen h 0, blk_frozen h 1⟩
theorem cellM {W : World} {p : Addr} {v : Value} (h : W.cell? p = some v) (o : Obj) : (W.alloc o).cell? p = some v := cell_keep ((Chg.refl (fun _ => False) W).alloc o) (fun h => h) h
theorem keep3 {W : World} {g : Nat} {p : Addr} {v x y z : Value} (h : W.cell? p = some v) (hne : p.block ≠ g) : (((W.setCell ⟨g, 0, none⟩ x).setCell ⟨g, 1, none⟩ y).setCell ⟨g, 2, none⟩ z).cell? p = some v := by
  rw [cell_far hne, cell_far hne, cell_far hne, h]
theorem RR.alloc_ {w : World} {F : Nat → Prop} {g i : Nat} {bs : List Int} {err : Int} (h : RR w F g bs i err) (o : Obj) : RR (w.alloc o) F g bs i err := h.chg ((Chg.refl (fun _ => False) w).alloc o) (fun _ _ _ h => h)
theorem RR.drewN_ {w : World} {F : Nat → Prop} {g i : Nat} {bs : List Int} {err : Int} (h : RR w F g bs i err) (n : Nat) : RR (w.drewN n) F g bs i err := h.chg ((Chg.refl (fun _ => False) w).drewN n) (fun _ _ _ h => h)
theorem RR.drew_ {w : World} {F : Nat → Prop} {g i : Nat} {bs : List Int} {err : Int} (h : RR w F g bs i err) : RR w.drew F g bs i err := h.chg ((Chg.refl (fun _ => False) w).drew) (fun _ _ _ h => h)
theorem Rd.drew_ {w : World} {F : Nat → Prop} {g i : Nat} {bs : List Int} {err : Int} (h : Rd w F g bs i err) : Rd w.drew F g bs i err := h.chg ((Chg.refl (fun _ => False) w).drew) (fun _ _ _ h => h)
theorem chg_drew1 {S : Nat → Prop} (W : World) : Chg S W W.drew := (Chg.refl S W).drew
set_option maxHeartbeats 2000000
theorem law_wireReads (w : World) (A A' B : Option Addr) (n0 cap n1 cap' nr capr : Nat) (bs cs : List Int) (row : List Get) (hC : Kd.C (Kd.int .u8) w A n0 bs) (hbs0 : ∀ c ∈ bs, 0 ≤ c ∧ c < 256) (hD : Kd.C (Kd.int .u8) w A' n1 cs) (hcs0 : ∀ c ∈ cs, 0 ≤ c ∧ c < 256) (hG : Kd.C kGet w B nr row) (hrow : ∀ p ∈ row, (-9223372036854775808 ≤ p.on ∧ p.on ≤ 9223372036854775807) ∧ -9223372036854775808 ≤ p.n ∧ p.n ≤ 9223372036854775807) (hn : bs.length ≤ 1048576) (hn' : cs.length ≤ 1048576) (hnr : row.length ≤ 1048576) :
    Calls Try.prog 6 #[.slice A n0 cap, .slice A' n1 cap', .slice B nr capr] w fun e w' => e = .returned (.bool true) ∧ Below w.heap.size w w' := by
  have z0 := hC.1
  have z1 := hD.1
  have z2 := hG.1
  have hbs := Aside0.mk hbs0
  have hcs := Aside0.mk hcs0
  have hCA := Aside0.mk hC
  have hDA := Aside0.mk hD
  have hGA := Aside0.mk hG
  have hrA := Aside0.mk hrow
  clear hbs0 hcs0 hC hD hG hrow
  go_enter Try.func6, Try.ntmps6
  go_wp2_with (first | (go_at_call_of 15 cap; refine (law_opened w A n0 cap bs hCA.out hbs.out (by omega)).mono ?_; go_must (rintro e w1 ⟨g1, rfl, hR1, hc1⟩); go_must (replace hR1 := Aside0.mk hR1); go_must (replace hc1 := Aside0.mk hc1)) | (go_at_call_of 15 cap'; go_must (refine (law_opened w1 A' n1 cap' cs (C_chg hDA.out (hc1.out.below (fun _ _ h => h))) hcs.out (by omega)).mono ?_); go_must (rintro e w2 ⟨g2, rfl, hR2, hc2⟩); go_must (replace hR2 := Aside0.mk hR2); go_must (replace hc2 := Aside0.mk hc2)) | (go_at_call_of 16 cap; refine (ref_read _ A n0 cap bs (C_chg hCA.out ((hc1.out.trans hc2.out (fun _ _ h => h)).below (fun _ _ h => h))) hbs.out (by omega)).mono ?_; go_must (rintro e w3 ⟨r1, rfl, hR3, hc3⟩); go_must (replace hR3 := Aside0.mk hR3); go_must (replace hc3 := Aside0.mk hc3)) | (go_at_call_of 16 cap'; go_must (refine (ref_read _ A' n1 cap' cs (C_chg hDA.out (((hc1.out.trans hc2.out (fun _ _ h => h)).trans hc3.out (fun _ _ h => h)).below (fun _ _ h => h))) hcs.out (by omega)).mono ?_); go_must (rintro e w4 ⟨r2, rfl, hR4, hc4⟩); go_must (replace hR4 := Aside0.mk hR4); go_must (replace hc4 := Aside0.mk hc4)))
  obtain ⟨a, ha⟩ : ∃ a, a = w.heap.size := ⟨_, rfl⟩
  obtain ⟨b, hb⟩ : ∃ b, b = w1.heap.size := ⟨_, rfl⟩
  obtain ⟨c, hc⟩ : ∃ c, c = w2.heap.size := ⟨_, rfl⟩
  obtain ⟨d, hd⟩ : ∃ d, d = w3.heap.size := ⟨_, rfl⟩
  obtain ⟨e, he⟩ : ∃ e, e = w4.heap.size := ⟨_, rfl⟩
  rw [← he]
  have hS0 : Aside0 (SW w a b c d e g1 g2 r1 r2 bs cs (w4.alloc (.cells #[.pointer (some ⟨r1, 0, none⟩), .pointer (some ⟨r2, 0, none⟩)] 37)) 0 0 0 0) := ⟨by
    have s1 := hc1.out.size; have s2 := hc2.out.size; have s3 := hc3.out.size; have s4 := hc4.out.size
    have t34 := hc3.out.trans hc4.out (fun _ _ h => h)
    have t24 := hc2.out.trans t34 (fun _ _ h => h)
    have nw : ∀ {F : Nat → Prop} {W W' : World} (j : Nat), New (fun _ => False) W W' j → W.heap.size ≤ j ∧ j < W'.heap.size := fun j hj => hj.elim False.elim id
    subst ha hb hc hd he
    refine ⟨((hR1.out.chg t24 (fun _ _ _ h => h)).mono (fun j _ hj => nw (F := fun _ => False) j hj)).chg ((Chg.refl (fun _ => False) _).alloc _) (fun _ _ _ h => h), ((hR2.out.chg t34 (fun _ _ _ h => h)).mono (fun j _ hj => nw (F := fun _ => False) j hj)).chg ((Chg.refl (fun _ => False) _).alloc _) (fun _ _ _ h => h), ((hR3.out.chg hc4.out (fun _ _ _ h => h)).mono (fun j _ hj => nw (F := fun _ => False) j hj)).chg ((Chg.refl (fun _ => False) _).alloc _) (fun _ _ _ h => h), (hR4.out.mono (fun j _ hj => nw (F := fun _ => False) j hj)).chg ((Chg.refl (fun _ => False) _).alloc _) (fun _ _ _ h => h), heap_alloc_new w4 _, (hc1.out.trans t24 (fun _ _ h => h)).alloc _, ⟨Nat.le_refl _, s1, s2, s3, s4, by simp⟩⟩⟩
  have hT0 := Aside0.mk (TD.nil e (w4.alloc (.cells #[.pointer (some ⟨r1, 0, none⟩), .pointer (some ⟨r2, 0, none⟩)] 37)))
  clear hR1 hR2 hR3 hR4 hc1 hc2 hc3 hc4 ha hb hc hd he
  go_loopw [10, 11, 12, 13, 14, 15, 16, 17] (fun tv ix _ _ _ _ _ _ wr => ∃ (k i1 i2 : Nat) (e1 e2 : Int) (TA : Option Addr) (tn tc : Nat) (ts : List (Option Addr × Nat × Nat)), ix = .int .i64 k ∧ tv = .slice TA tn tc ∧ k ≤ row.length ∧ ts.length ≤ k ∧ Aside0 (SW w a b c d e g1 g2 r1 r2 bs cs wr i1 i2 e1 e2) ∧ Aside0 (TD e wr (TA, tn, tc) ts)) (fun _ ix _ _ _ _ _ _ _ => row.length - (intOf ix).toNat)
  case atStart => exact ⟨0, 0, 0, 0, 0, none, 0, 0, [], rfl, rfl, by omega, by simp, hS0, hT0⟩
  case round =>
    obtain ⟨k, i1, i2, e1, e2, TA, tn, tc, ts, rfl, rfl, hk, hts, hS, hT⟩ := hrel
    by_cases hlt : k < row.length
    · have hk0 : (0 : Int) ≤ k := by omega
      have hk1 : (k : Int) < row.length := by omega
      obtain ⟨ad, on, kd, nn, ea, eb, x0, x1, x2⟩ := get_at (C_chg hGA.out (hS.out.bel.below (fun _ _ h => h))) k (by omega)
      subst ea
      have hgn : Aside0 (-9223372036854775808 ≤ on ∧ on ≤ 9223372036854775807 ∧ -9223372036854775808 ≤ nn ∧ nn ≤ 9223372036854775807) := ⟨by have := hrA.out _ (List.mem_of_getElem? eb); exact ⟨this.1.1, this.1.2, this.2⟩⟩
      clear eb
      have hi1 : i1 ≤ bs.length := by obtain ⟨_, _, _, _, h, _⟩ := hS.out.k1; exact h
      have hi2 : i2 ≤ cs.length := by obtain ⟨_, _, _, _, h, _⟩ := hS.out.k2; exact h
      have hpr : 0 ≤ pickP on 2 ∧ pickP on 2 < 2 := pickP_lt (k := on) (n := 2) (by decide)
      by_cases hpk : pickP on 2 = 0
      · obtain ⟨f1, f2, f3, f4, f5, f6⟩ := hS.out.le
        have ok1 := hS.out.k1.own
        have ok2 := hS.out.k2.own
        have oq1 := hS.out.q1.own
        have oq2 := hS.out.q2.own
        have hPick : Aside0 (∀ W, Calls Try.prog 17 #[.int .i64 on, .int .i64 2] W fun ev w' => ev = .returned (.int .i64 0) ∧ w' = W) := ⟨fun W => by have h := kit_Pick W on 2 hgn.out.1 hgn.out.2.1 (by decide); rw [hpk] at h; exact h⟩
        have hle5 := pgetA_l (err := e1) (kind := kd) (n := nn) hi1
        have hget : Aside0 (∀ W, Rd W (fun j => a ≤ j ∧ j < b) g1 bs i1 e1 → e < W.heap.size → Calls Try.prog 19 #[.pointer (some ⟨g1, 0, none⟩), .agg #[.int .i64 on, .int .i64 kd, .int .i64 nn]] W _) := ⟨fun W h1 h2 => law_get W (fun j => a ≤ j ∧ j < b) g1 _ bs _ on kd nn h1 hgn.out.2.2.1 hgn.out.2.2.2 (fun j hj => by omega)⟩
        have hgetR : Aside0 (∀ W, RR W (fun j => c ≤ j ∧ j < d) r1 bs i1 e1 → e < W.heap.size → Calls Try.prog 18 #[.pointer (some ⟨r1, 0, none⟩), .agg #[.int .i64 on, .int .i64 kd, .int .i64 nn]] W _) := ⟨fun W h1 h2 => law_getRef W (fun j => c ≤ j ∧ j < d) r1 _ bs _ on kd nn h1 hgn.out.2.2.1 hgn.out.2.2.2 (fun j hj => by omega)⟩
        generalize pgetA bs i1 e1 kd nn = R at hget hgetR hle5
        obtain ⟨x, s, eg, l, jj, ff⟩ := R
        simp only at hget hgetR hle5
        generalize strOfNums s = sb at hget hgetR
        have hll : Aside0 (l.length ≤ 1048576) := ⟨by omega⟩
        have hcB := Aside0.mk ((Chg.refl (fun _ => False) wr).alloc (.cells #[.int .i64 on, .int .i64 kd, .int .i64 nn] 40))
        have hcA := Aside0.mk (hcB.out.alloc (.cells #[.int .u64 0, .string ⟨#[]⟩, .int .i64 0] 43))
        have haA := Aside0.mk (hcA.out.blk hS.out.arr (fun h => h))
        have haB := Aside0.mk (hcB.out.blk hS.out.arr (fun h => h))
        have hbA := Aside0.mk (heap_alloc_old2 wr (.cells #[.int .i64 on, .int .i64 kd, .int .i64 nn] 40) (.cells #[.int .u64 0, .string ⟨#[]⟩, .int .i64 0] 43))
        have hgA := Aside0.mk (heap_alloc_new2 wr (.cells #[.int .i64 on, .int .i64 kd, .int .i64 nn] 40) (.cells #[.int .u64 0, .string ⟨#[]⟩, .int .i64 0] 43))
        have hbB := Aside0.mk (heap_alloc_new wr (.cells #[.int .i64 on, .int .i64 kd, .int .i64 nn] 40))
        obtain ⟨p0, p1, p2, _, _, _⟩ := cells3 hbB.out
        have pa : (wr.alloc (.cells #[.int .i64 on, .int .i64 kd, .int .i64 nn] 40)).cell? ⟨e, 0, none⟩ = some (.pointer (some ⟨r1, 0, none⟩)) := blk_cell haB.out 0
        replace hle5 := Aside0.mk hle5
        go_wp2_with (go_at_call 17; go_must (refine (hPick.out _).mono ?_); go_must (rintro e w9 ⟨rfl, rfl⟩))
        go_region_held3 (fun w' => w'.cell? ⟨e, 0, none⟩ = some (.pointer (some ⟨r1, 0, none⟩)) ∧ w'.cell? ⟨wr.heap.size, 0, none⟩ = some (.int .i64 on) ∧ w'.cell? ⟨wr.heap.size, 1, none⟩ = some (.int .i64 kd) ∧ w'.cell? ⟨wr.heap.size, 2, none⟩ = some (.int .i64 nn)) (first | with_reducible exact ⟨pa, p0, p1, p2⟩ | with_reducible exact ⟨ya, y0, y1, y2⟩ | with_reducible exact ⟨keep3 ya (by simp; omega), keep3 y0 (by simp), keep3 y1 (by simp), keep3 y2 (by simp)⟩ | with_reducible exact ⟨cellM ya _, cellM y0 _, cellM y1 _, cellM y2 _⟩ | go_keep) ((go_at_call 18; (refine (hgetR.out _ (by repeat (first | exact hS.out.q1 | apply RR.alloc_ | apply RR.drew_ | apply RR.drewN_)) (by simp; omega)).mono ?_); (rintro ev w5 ⟨rfl, hR5, hc5⟩); (have hq5 := Aside0.mk hR5); (have hn5 : Aside0 (Chg (fun k => k = r1) wr w5) := ⟨by first | exact ((hcA.out.mono (fun _ _ h => h.elim)).drew).trans hc5 (fun _ _ h => h) | exact ((hcB.out.mono (fun _ _ h => h.elim)).drew).trans hc5 (fun _ _ h => h) | exact (hcA.out.mono (fun _ _ h => h.elim)).trans hc5 (fun _ _ h => h) | exact (hcB.out.mono (fun _ _ h => h.elim)).trans hc5 (fun _ _ h => h)⟩); (have hb5 : Aside0 (w5.heap[wr.heap.size]? = some (.cells #[.int .i64 on, .int .i64 kd, .int .i64 nn] 40 (0, 0))) := ⟨by first | exact hc5.blk hbA.out (by omega) | exact hc5.blk hbB.out (by omega)⟩); (have ha5 : Aside0 (w5.heap[e]? = some (.cells #[.pointer (some ⟨r1, 0, none⟩), .pointer (some ⟨r2, 0, none⟩)] 37 (0, 0))) := ⟨by first | exact hc5.blk haA.out (by omega) | exact hc5.blk haB.out (by omega)⟩); (try (have hg5 : Aside0 (w5.heap[wr.heap.size + 1]? = some (.cells #[.int .u64 0, .string ⟨#[]⟩, .int .i64 0] 43 (0, 0))) := ⟨hc5.blk hgA.out (by omega)⟩; obtain ⟨u0, u1, u2, v0, v1, v2⟩ := cells3 hg5.out)); (obtain ⟨y0, y1, y2, _, _, _⟩ := cells3 hb5.out); (have ya : w5.cell? ⟨e, 0, none⟩ = some (.pointer (some ⟨r1, 0, none⟩)) := blk_cell ha5.out 0); (have hz5 : wr.heap.size < w5.heap.size := by have := hc5.size; simp at this; omega); clear hc5 hR5))
        all_goals (
          first
          | (have h7 := set3 (x := .int .u64 x) (y := .string sb) (z := .int .i64 eg) hg5.out
             generalize hw7 : World.setCell (World.setCell (World.setCell w5 _ _) _ _) _ _ = W7 at h7
             obtain ⟨gb, hgb⟩ : ∃ gb, gb = wr.heap.size + 1 := ⟨_, rfl⟩
             rw [← hgb] at h7 ⊢
             have hG7 := Aside0.mk h7.1
             have hn7 : Aside0 (Chg (fun k => k = r1) wr W7) := ⟨hn5.out.trans h7.2 (fun k hk h => by omega)⟩
             have hb7 : Aside0 (W7.heap[wr.heap.size]? = some (.cells #[.int .i64 on, .int .i64 kd, .int .i64 nn] 40 (0, 0))) := ⟨h7.2.blk hb5.out (by omega)⟩
             have hq7 := Aside0.mk (hq5.out.chg h7.2 (fun k hk h1 h2 => by omega))
             have hgb2 : wr.heap.size < gb ∧ gb < W7.heap.size := by have := blk_lt h7.1; omega
             clear hw7 hgb h7 hg5 u0 u1 u2 v0 v1 v2)
          | (have h7 : Chg (fun _ => False) w5 (w5.alloc (.cells #[.int .u64 x, .string sb, .int .i64 eg] 43)) := (Chg.refl _ w5).alloc _
             have h8 := heap_alloc_new w5 (.cells #[.int .u64 x, .string sb, .int .i64 eg] 43)
             generalize hw7 : World.alloc w5 _ = W7 at h7 h8 ⊢
             obtain ⟨gb, hgb⟩ : ∃ gb, gb = w5.heap.size := ⟨_, rfl⟩
             rw [← hgb] at h8 ⊢
             have hG7 := Aside0.mk h8
             have hn7 : Aside0 (Chg (fun k => k = r1) wr W7) := ⟨hn5.out.trans h7 (fun k hk h => h.elim)⟩
             have hb7 : Aside0 (W7.heap[wr.heap.size]? = some (.cells #[.int .i64 on, .int .i64 kd, .int .i64 nn] 40 (0, 0))) := ⟨h7.blk hb5.out (fun h => h)⟩
             have hq7 := Aside0.mk (hq5.out.chg h7 (fun k hk h1 h2 => h2))
             have hgb2 : wr.heap.size < gb ∧ gb < W7.heap.size := by have := blk_lt h8; omega
             clear hw7 hgb h7 h8)
          clear hcA hcB haA haB hbA hbB hgA pa p0 p1 p2 ya y0 y1 y2 hq5 hn5 ha5 hb5
          obtain ⟨y0, y1, y2, _, _, _⟩ := cells3 hb7.out
          by_cases h5 : kd = 5
          · have d5 : (kd == 5) = true := by simpa using h5
            by_cases h2 : 2 ≤ on
            · have d2 : decide (on ≥ 2) = true := by simpa using h2
              have d3 : decide (on < 2) = false := by simp; omega
              clear h5 h2
              go_wp2_with (first | (go_at_call 19; go_must (refine (hget.out _ (hS.out.k1.chg hn7.out (fun j hj h1 h2 => by omega)) (by omega)).mono ?_); go_must (rintro ev w6 ⟨v6, rfl, hr6, hR6, hc6⟩); go_must (obtain ⟨A6, n6, cap6, rfl⟩ := R_sl hr6); go_must (have hb6 := hc6.blk hb7.out (by omega)); go_must (have hG6 := hc6.blk hG7.out (by omega)); go_must (obtain ⟨b0, b1, b2, _, _, _⟩ := cells3 hb6); go_must (obtain ⟨c0, c1, c2, _, _, _⟩ := cells3 hG6); go_must (have m0 := cellM b0 (.cells #[.int .u64 x, .string sb, .int .i64 eg] 43)); go_must (have m1 := cellM b1 (.cells #[.int .u64 x, .string sb, .int .i64 eg] 43)); go_must (have m2 := cellM b2 (.cells #[.int .u64 x, .string sb, .int .i64 eg] 43)); go_must (have o0 := cellM c0 (.cells #[.int .u64 x, .string sb, .int .i64 eg] 43)); go_must (have o1 := cellM c1 (.cells #[.int .u64 x, .string sb, .int .i64 eg] 43)); go_must (have o2 := cellM c2 (.cells #[.int .u64 x, .string sb, .int .i64 eg] 43)); go_must (have hz6 := hc6.size); go_must (have hcE : Aside0 (Chg (fun k => k ≤ e) wr w6) := ⟨(hn7.out.mono (fun k hk h => by omega)).trans hc6 (fun k hk h => by omega)⟩); go_must (replace hb6 := Aside0.mk hb6); go_must (replace hr6 := Aside0.mk hr6); go_must (replace hR6 := Aside0.mk hR6); go_must (replace hc6 := Aside0.mk hc6); go_must (clear hG6)) | (go_at_call 20; go_must (refine (one_Apart (w5 := W7) (W := w6.alloc (.cells #[.int .u64 x, .string sb, .int .i64 eg] 43)) (by simp) (Kd.R_mono (R_chg hr6.out ((Chg.refl (fun _ => False) w6).alloc _) (fun _ _ _ h => h)) (fun k hk => hk.imp id (fun h => ⟨h.1, by simp; omega⟩))) hll.out).mono ?_); go_must (rintro ev w8 ⟨rfl, hc8⟩); go_must (replace hc8 : Aside0 (Chg (fun k => W7.heap.size ≤ k) w6 w8) := ⟨((((Chg.refl (fun _ => False) w6).alloc _).alloc _).mono (fun _ _ h => h.elim)).trans hc8 (fun _ _ h => h)⟩); go_must (obtain ⟨b0, b1, b2, _, _, _⟩ := cells3 (hc8.out.blk hb6.out (by omega)))))
              have hfin := SW.go1 hS.out (Chg.refl _ wr) hq7.out hn7.out (Chg.refl _ W7) hR6.out hc6.out (S := fun k => W7.heap.size ≤ k) hc8.out (fun k hk => hk)
              go_roundw
              case measure => first | (simp [intOf]; done) | (simp [intOf]; omega)
              case rel => exact ⟨k + 1, jj, i2, ff, e2, TA, tn, tc, ts, by go_num, rfl, by omega, by omega, ⟨hfin.1⟩, ⟨hT.out.chg hfin.2 (fun _ _ h => h)⟩⟩
            · have d2 : decide (on ≥ 2) = false := by simp; omega
              have d3 : decide (on < 2) = true := by simp; omega
              clear h5 h2
              go_wp2_with (first | (go_at_call 19; go_must (refine (hget.out _ (hS.out.k1.chg hn7.out (fun j hj h1 h2 => by omega)) (by omega)).mono ?_); go_must (rintro ev w6 ⟨v6, rfl, hr6, hR6, hc6⟩); go_must (obtain ⟨A6, n6, cap6, rfl⟩ := R_sl hr6); go_must (have hb6 := hc6.blk hb7.out (by omega)); go_must (have hG6 := hc6.blk hG7.out (by omega)); go_must (obtain ⟨b0, b1, b2, _, _, _⟩ := cells3 hb6); go_must (obtain ⟨c0, c1, c2, _, _, _⟩ := cells3 hG6); go_must (have m0 := cellM b0 (.cells #[.int .u64 x, .string sb, .int .i64 eg] 43)); go_must (have m1 := cellM b1 (.cells #[.int .u64 x, .string sb, .int .i64 eg] 43)); go_must (have m2 := cellM b2 (.cells #[.int .u64 x, .string sb, .int .i64 eg] 43)); go_must (have o0 := cellM c0 (.cells #[.int .u64 x, .string sb, .int .i64 eg] 43)); go_must (have o1 := cellM c1 (.cells #[.int .u64 x, .string sb, .int .i64 eg] 43)); go_must (have o2 := cellM c2 (.cells #[.int .u64 x, .string sb, .int .i64 eg] 43)); go_must (have hz6 := hc6.size); go_must (have hcE : Aside0 (Chg (fun k => k ≤ e) wr w6) := ⟨(hn7.out.mono (fun k hk h => by omega)).trans hc6 (fun k hk h => by omega)⟩); go_must (replace hb6 := Aside0.mk hb6); go_must (replace hr6 := Aside0.mk hr6); go_must (replace hR6 := Aside0.mk hR6); go_must (replace hc6 := Aside0.mk hc6); go_must (clear hG6)) | (at_builtin; go_must (refine app1 (w := w6) (F := fun b => (slv (TA, tn, tc)).ownBlock = some b) kSl rfl (.tmp 86) (.tmp 88) rfl Try.underlying38 infoSl rfl (by decide) (by decide) (A6, n6, cap6) rfl (by rw [show (w6.alloc (.cells #[.int .u64 x, .string sb, .int .i64 eg] 43)).heap.size = w6.heap.size + 1 from by simp]; rfl) (kSl_M _ _ _) ⟨Kd.R_mono (R_chg (hT.out.chg hcE.out (fun _ _ h => h)).gr ((Chg.refl (fun _ => False) w6).alloc _) (fun _ _ _ h => h)) (fun b hb => .inl hb.symm)⟩ ⟨(Chg.refl _ w6).alloc _⟩ ⟨by omega⟩ ?_); go_must (intro v9 w9 hr9 hc9); go_must (obtain ⟨A9, n9, cap9, rfl⟩ := R_sl hr9.out)))
              have hfin := SW.go1 hS.out (Chg.refl _ wr) hq7.out hn7.out (Chg.refl _ W7) hR6.out hc6.out (S := fun k => W7.heap.size ≤ k) (Chg.refl _ w6) (fun k hk => hk)
              go_roundw
              case measure => first | (simp [intOf]; done) | (simp [intOf]; omega)
              case rel =>
                have hfin2 := hfin.1.chg (S := fun b => (slv (TA, tn, tc)).ownBlock = some b) hc9.out (fun b hb h => hT.out.gn b h)
                exact ⟨k + 1, jj, i2, ff, e2, A9, n9, cap9, ts ++ [(A6, n6, cap6)], by go_num, rfl, by omega, by rw [List.length_append]; simp; omega, ⟨hfin2⟩, ⟨TD.snoc hT.out f6 hcE.out hr6.out hn7.out.size hll.out hc9.out hr9.out⟩⟩
          · have d5 : (kd == 5) = false := by simpa using h5
            clear h5
            go_wp2_with (go_at_call 19; go_must (refine (hget.out _ (hS.out.k1.chg hn7.out (fun j hj h1 h2 => by omega)) (by omega)).mono ?_); go_must (rintro ev w6 ⟨v6, rfl, hr6, hR6, hc6⟩); go_must (obtain ⟨A6, n6, cap6, rfl⟩ := R_sl hr6); go_must (have hb6 := hc6.blk hb7.out (by omega)); go_must (have hG6 := hc6.blk hG7.out (by omega)); go_must (obtain ⟨b0, b1, b2, _, _, _⟩ := cells3 hb6); go_must (obtain ⟨c0, c1, c2, _, _, _⟩ := cells3 hG6); go_must (have m0 := cellM b0 (.cells #[.int .u64 x, .string sb, .int .i64 eg] 43)); go_must (have m1 := cellM b1 (.cells #[.int .u64 x, .string sb, .int .i64 eg] 43)); go_must (have m2 := cellM b2 (.cells #[.int .u64 x, .string sb, .int .i64 eg] 43)); go_must (have o0 := cellM c0 (.cells #[.int .u64 x, .string sb, .int .i64 eg] 43)); go_must (have o1 := cellM c1 (.cells #[.int .u64 x, .string sb, .int .i64 eg] 43)); go_must (have o2 := cellM c2 (.cells #[.int .u64 x, .string sb, .int .i64 eg] 43)); go_must (have hz6 := hc6.size); go_must (have hcE : Aside0 (Chg (fun k => k ≤ e) wr w6) := ⟨(hn7.out.mono (fun k hk h => by omega)).trans hc6 (fun k hk h => by omega)⟩); go_must (replace hb6 := Aside0.mk hb6); go_must (replace hr6 := Aside0.mk hr6); go_must (replace hR6 := Aside0.mk hR6); go_must (replace hc6 := Aside0.mk hc6); go_must (clear hG6))
            have hfin := SW.go1 hS.out (Chg.refl _ wr) hq7.out hn7.out (Chg.refl _ W7) hR6.out hc6.out (S := fun k => W7.heap.size ≤ k) (((Chg.refl (fun _ => False) w6).alloc (.cells #[.int .u64 x, .string sb, .int .i64 eg] 43)).mono (fun _ _ h => h.elim)) (fun k hk => hk)
            go_roundw
            case measure => first | (simp [intOf]; done) | (simp [intOf]; omega)
            case rel => exact ⟨k + 1, jj, i2, ff, e2, TA, tn, tc, ts, by go_num, rfl, by omega, by omega, ⟨hfin.1⟩, ⟨hT.out.chg hfin.2 (fun _ _ h => h)⟩⟩)
      · replace hpk : pickP on 2 = 1 := by have h1 := hpr.1; have h2 := hpr.2; omega
        obtain ⟨f1, f2, f3, f4, f5, f6⟩ := hS.out.le
        have ok1 := hS.out.k1.own
        have ok2 := hS.out.k2.own
        have oq1 := hS.out.q1.own
        have oq2 := hS.out.q2.own
        have hPick : Aside0 (∀ W, Calls Try.prog 17 #[.int .i64 on, .int .i64 2] W fun ev w' => ev = .returned (.int .i64 1) ∧ w' = W) := ⟨fun W => by have h := kit_Pick W on 2 hgn.out.1 hgn.out.2.1 (by decide); rw [hpk] at h; exact h⟩
        have hle5 := pgetA_l (err := e2) (kind := kd) (n := nn) hi2
        have hget : Aside0 (∀ W, Rd W (fun j => b ≤ j ∧ j < c) g2 cs i2 e2 → e < W.heap.size → Calls Try.prog 19 #[.pointer (some ⟨g2, 0, none⟩), .agg #[.int .i64 on, .int .i64 kd, .int .i64 nn]] W _) := ⟨fun W h1 h2 => law_get W (fun j => b ≤ j ∧ j < c) g2 _ cs _ on kd nn h1 hgn.out.2.2.1 hgn.out.2.2.2 (fun j hj => by omega)⟩
        have hgetR : Aside0 (∀ W, RR W (fun j => d ≤ j ∧ j < e) r2 cs i2 e2 → e < W.heap.size → Calls Try.prog 18 #[.pointer (some ⟨r2, 0, none⟩), .agg #[.int .i64 on, .int .i64 kd, .int .i64 nn]] W _) := ⟨fun W h1 h2 => law_getRef W (fun j => d ≤ j ∧ j < e) r2 _ cs _ on kd nn h1 hgn.out.2.2.1 hgn.out.2.2.2 (fun j hj => by omega)⟩
        generalize pgetA cs i2 e2 kd nn = R at hget hgetR hle5
        obtain ⟨x, s, eg, l, jj, ff⟩ := R
        simp only at hget hgetR hle5
        generalize strOfNums s = sb at hget hgetR
        have hll : Aside0 (l.length ≤ 1048576) := ⟨by omega⟩
        have hcB := Aside0.mk ((Chg.refl (fun _ => False) wr).alloc (.cells #[.int .i64 on, .int .i64 kd, .int .i64 nn] 40))
        have hcA := Aside0.mk (hcB.out.alloc (.cells #[.int .u64 0, .string ⟨#[]⟩, .int .i64 0] 43))
        have haA := Aside0.mk (hcA.out.blk hS.out.arr (fun h => h))
        have haB := Aside0.mk (hcB.out.blk hS.out.arr (fun h => h))
        have hbA := Aside0.mk (heap_alloc_old2 wr (.cells #[.int .i64 on, .int .i64 kd, .int .i64 nn] 40) (.cells #[.int .u64 0, .string ⟨#[]⟩, .int .i64 0] 43))
        have hgA := Aside0.mk (heap_alloc_new2 wr (.cells #[.int .i64 on, .int .i64 kd, .int .i64 nn] 40) (.cells #[.int .u64 0, .string ⟨#[]⟩, .int .i64 0] 43))
        have hbB := Aside0.mk (heap_alloc_new wr (.cells #[.int .i64 on, .int .i64 kd, .int .i64 nn] 40))
        obtain ⟨p0, p1, p2, _, _, _⟩ := cells3 hbB.out
        have pa : (wr.alloc (.cells #[.int .i64 on, .int .i64 kd, .int .i64 nn] 40)).cell? ⟨e, 1, none⟩ = some (.pointer (some ⟨r2, 0, none⟩)) := blk_cell haB.out 1
        replace hle5 := Aside0.mk hle5
        go_wp2_with (go_at_call 17; go_must (refine (hPick.out _).mono ?_); go_must (rintro e w9 ⟨rfl, rfl⟩))
        go_region_held3 (fun w' => w'.cell? ⟨e, 1, none⟩ = some (.pointer (some ⟨r2, 0, none⟩)) ∧ w'.cell? ⟨wr.heap.size, 0, none⟩ = some (.int .i64 on) ∧ w'.cell? ⟨wr.heap.size, 1, none⟩ = some (.int .i64 kd) ∧ w'.cell? ⟨wr.heap.size, 2, none⟩ = some (.int .i64 nn)) (first | with_reducible exact ⟨pa, p0, p1, p2⟩ | with_reducible exact ⟨ya, y0, y1, y2⟩ | with_reducible exact ⟨keep3 ya (by simp; omega), keep3 y0 (by simp), keep3 y1 (by simp), keep3 y2 (by simp)⟩ | with_reducible exact ⟨cellM ya _, cellM y0 _, cellM y1 _, cellM y2 _⟩ | go_keep) ((go_at_call 18; (refine (hgetR.out _ (by repeat (first | exact hS.out.q2 | apply RR.alloc_ | apply RR.drew_ | apply RR.drewN_)) (by simp; omega)).mono ?_); (rintro ev w5 ⟨rfl, hR5, hc5⟩); (have hq5 := Aside0.mk hR5); (have hn5 : Aside0 (Chg (fun k => k = r2) wr w5) := ⟨by first | exact ((hcA.out.mono (fun _ _ h => h.elim)).drew).trans hc5 (fun _ _ h => h) | exact ((hcB.out.mono (fun _ _ h => h.elim)).drew).trans hc5 (fun _ _ h => h) | exact (hcA.out.mono (fun _ _ h => h.elim)).trans hc5 (fun _ _ h => h) | exact (hcB.out.mono (fun _ _ h => h.elim)).trans hc5 (fun _ _ h => h)⟩); (have hb5 : Aside0 (w5.heap[wr.heap.size]? = some (.cells #[.int .i64 on, .int .i64 kd, .int .i64 nn] 40 (0, 0))) := ⟨by first | exact hc5.blk hbA.out (by omega) | exact hc5.blk hbB.out (by omega)⟩); (have ha5 : Aside0 (w5.heap[e]? = some (.cells #[.pointer (some ⟨r1, 0, none⟩), .pointer (some ⟨r2, 0, none⟩)] 37 (0, 0))) := ⟨by first | exact hc5.blk haA.out (by omega) | exact hc5.blk haB.out (by omega)⟩); (try (have hg5 : Aside0 (w5.heap[wr.heap.size + 1]? = some (.cells #[.int .u64 0, .string ⟨#[]⟩, .int .i64 0] 43 (0, 0))) := ⟨hc5.blk hgA.out (by omega)⟩; obtain ⟨u0, u1, u2, v0, v1, v2⟩ := cells3 hg5.out)); (obtain ⟨y0, y1, y2, _, _, _⟩ := cells3 hb5.out); (have ya : w5.cell? ⟨e, 1, none⟩ = some (.pointer (some ⟨r2, 0, none⟩)) := blk_cell ha5.out 1); (have hz5 : wr.heap.size < w5.heap.size := by have := hc5.size; simp at this; omega); clear hc5 hR5))
        all_goals (
          first
          | (have h7 := set3 (x := .int .u64 x) (y := .string sb) (z := .int .i64 eg) hg5.out
             generalize hw7 : World.setCell (World.setCell (World.setCell w5 _ _) _ _) _ _ = W7 at h7
             obtain ⟨gb, hgb⟩ : ∃ gb, gb = wr.heap.size + 1 := ⟨_, rfl⟩
             rw [← hgb] at h7 ⊢
             have hG7 := Aside0.mk h7.1
             have hn7 : Aside0 (Chg (fun k => k = r2) wr W7) := ⟨hn5.out.trans h7.2 (fun k hk h => by omega)⟩
             have hb7 : Aside0 (W7.heap[wr.heap.size]? = some (.cells #[.int .i64 on, .int .i64 kd, .int .i64 nn] 40 (0, 0))) := ⟨h7.2.blk hb5.out (by omega)⟩
             have hq7 := Aside0.mk (hq5.out.chg h7.2 (fun k hk h1 h2 => by omega))
             have hgb2 : wr.heap.size < gb ∧ gb < W7.heap.size := by have := blk_lt h7.1; omega
             clear hw7 hgb h7 hg5 u0 u1 u2 v0 v1 v2)
          | (have h7 : Chg (fun _ => False) w5 (w5.alloc (.cells #[.int .u64 x, .string sb, .int .i64 eg] 43)) := (Chg.refl _ w5).alloc _
             have h8 := heap_alloc_new w5 (.cells #[.int .u64 x, .string sb, .int .i64 eg] 43)
             generalize hw7 : World.alloc w5 _ = W7 at h7 h8 ⊢
             obtain ⟨gb, hgb⟩ : ∃ gb, gb = w5.heap.size := ⟨_, rfl⟩
             rw [← hgb] at h8 ⊢
             have hG7 := Aside0.mk h8
             have hn7 : Aside0 (Chg (fun k => k = r2) wr W7) := ⟨hn5.out.trans h7 (fun k hk h => h.elim)⟩
             have hb7 : Aside0 (W7.heap[wr.heap.size]? = some (.cells #[.int .i64 on, .int .i64 kd, .int .i64 nn] 40 (0, 0))) := ⟨h7.blk hb5.out (fun h => h)⟩
             have hq7 := Aside0.mk (hq5.out.chg h7 (fun k hk h1 h2 => h2))
             have hgb2 : wr.heap.size < gb ∧ gb < W7.heap.size := by have := blk_lt h8; omega
             clear hw7 hgb h7 h8)
          clear hcA hcB haA haB hbA hbB hgA pa p0 p1 p2 ya y0 y1 y2 hq5 hn5 ha5 hb5
          obtain ⟨y0, y1, y2, _, _, _⟩ := cells3 hb7.out
          by_cases h5 : kd = 5
          · have d5 : (kd == 5) = true := by simpa using h5
            by_cases h2 : 2 ≤ on
            · have d2 : decide (on ≥ 2) = true := by simpa using h2
              have d3 : decide (on < 2) = false := by simp; omega
              clear h5 h2
              go_wp2_with (first | (go_at_call 19; go_must (refine (hget.out _ (hS.out.k2.chg hn7.out (fun j hj h1 h2 => by omega)) (by omega)).mono ?_); go_must (rintro ev w6 ⟨v6, rfl, hr6, hR6, hc6⟩); go_must (obtain ⟨A6, n6, cap6, rfl⟩ := R_sl hr6); go_must (have hb6 := hc6.blk hb7.out (by omega)); go_must (have hG6 := hc6.blk hG7.out (by omega)); go_must (obtain ⟨b0, b1, b2, _, _, _⟩ := cells3 hb6); go_must (obtain ⟨c0, c1, c2, _, _, _⟩ := cells3 hG6); go_must (have m0 := cellM b0 (.cells #[.int .u64 x, .string sb, .int .i64 eg] 43)); go_must (have m1 := cellM b1 (.cells #[.int .u64 x, .string sb, .int .i64 eg] 43)); go_must (have m2 := cellM b2 (.cells #[.int .u64 x, .string sb, .int .i64 eg] 43)); go_must (have o0 := cellM c0 (.cells #[.int .u64 x, .string sb, .int .i64 eg] 43)); go_must (have o1 := cellM c1 (.cells #[.int .u64 x, .string sb, .int .i64 eg] 43)); go_must (have o2 := cellM c2 (.cells #[.int .u64 x, .string sb, .int .i64 eg] 43)); go_must (have hz6 := hc6.size); go_must (have hcE : Aside0 (Chg (fun k => k ≤ e) wr w6) := ⟨(hn7.out.mono (fun k hk h => by omega)).trans hc6 (fun k hk h => by omega)⟩); go_must (replace hb6 := Aside0.mk hb6); go_must (replace hr6 := Aside0.mk hr6); go_must (replace hR6 := Aside0.mk hR6); go_must (replace hc6 := Aside0.mk hc6); go_must (clear hG6)) | (go_at_call 20; go_must (refine (one_Apart (w5 := W7) (W := w6.alloc (.cells #[.int .u64 x, .string sb, .int .i64 eg] 43)) (by simp) (Kd.R_mono (R_chg hr6.out ((Chg.refl (fun _ => False) w6).alloc _) (fun _ _ _ h => h)) (fun k hk => hk.imp id (fun h => ⟨h.1, by simp; omega⟩))) hll.out).mono ?_); go_must (rintro ev w8 ⟨rfl, hc8⟩); go_must (replace hc8 : Aside0 (Chg (fun k => W7.heap.size ≤ k) w6 w8) := ⟨((((Chg.refl (fun _ => False) w6).alloc _).alloc _).mono (fun _ _ h => h.elim)).trans hc8 (fun _ _ h => h)⟩); go_must (obtain ⟨b0, b1, b2, _, _, _⟩ := cells3 (hc8.out.blk hb6.out (by omega)))))
              have hfin := SW.go2 hS.out (Chg.refl _ wr) hq7.out hn7.out (Chg.refl _ W7) hR6.out hc6.out (S := fun k => W7.heap.size ≤ k) hc8.out (fun k hk => hk)
              go_roundw
              case measure => first | (simp [intOf]; done) | (simp [intOf]; omega)
              case rel => exact ⟨k + 1, i1, jj, e1, ff, TA, tn, tc, ts, by go_num, rfl, by omega, by omega, ⟨hfin.1⟩, ⟨hT.out.chg hfin.2 (fun _ _ h => h)⟩⟩
            · have d2 : decide (on ≥ 2) = false := by simp; omega
              have d3 : decide (on < 2) = true := by simp; omega
              clear h5 h2
              go_wp2_with (first | (go_at_call 19; go_must (refine (hget.out _ (hS.out.k2.chg hn7.out (fun j hj h1 h2 => by omega)) (by omega)).mono ?_); go_must (rintro ev w6 ⟨v6, rfl, hr6, hR6, hc6⟩); go_must (obtain ⟨A6, n6, cap6, rfl⟩ := R_sl hr6); go_must (have hb6 := hc6.blk hb7.out (by omega)); go_must (have hG6 := hc6.blk hG7.out (by omega)); go_must (obtain ⟨b0, b1, b2, _, _, _⟩ := cells3 hb6); go_must (obtain ⟨c0, c1, c2, _, _, _⟩ := cells3 hG6); go_must (have m0 := cellM b0 (.cells #[.int .u64 x, .string sb, .int .i64 eg] 43)); go_must (have m1 := cellM b1 (.cells #[.int .u64 x, .string sb, .int .i64 eg] 43)); go_must (have m2 := cellM b2 (.cells #[.int .u64 x, .string sb, .int .i64 eg] 43)); go_must (have o0 := cellM c0 (.cells #[.int .u64 x, .string sb, .int .i64 eg] 43)); go_must (have o1 := cellM c1 (.cells #[.int .u64 x, .string sb, .int .i64 eg] 43)); go_must (have o2 := cellM c2 (.cells #[.int .u64 x, .string sb, .int .i64 eg] 43)); go_must (have hz6 := hc6.size); go_must (have hcE : Aside0 (Chg (fun k => k ≤ e) wr w6) := ⟨(hn7.out.mono (fun k hk h => by omega)).trans hc6 (fun k hk h => by omega)⟩); go_must (replace hb6 := Aside0.mk hb6); go_must (replace hr6 := Aside0.mk hr6); go_must (replace hR6 := Aside0.mk hR6); go_must (replace hc6 := Aside0.mk hc6); go_must (clear hG6)) | (at_builtin; go_must (refine app1 (w := w6) (F := fun b => (slv (TA, tn, tc)).ownBlock = some b) kSl rfl (.tmp 86) (.tmp 88) rfl Try.underlying38 infoSl rfl (by decide) (by decide) (A6, n6, cap6) rfl (by rw [show (w6.alloc (.cells #[.int .u64 x, .string sb, .int .i64 eg] 43)).heap.size = w6.heap.size + 1 from by simp]; rfl) (kSl_M _ _ _) ⟨Kd.R_mono (R_chg (hT.out.chg hcE.out (fun _ _ h => h)).gr ((Chg.refl (fun _ => False) w6).alloc _) (fun _ _ _ h => h)) (fun b hb => .inl hb.symm)⟩ ⟨(Chg.refl _ w6).alloc _⟩ ⟨by omega⟩ ?_); go_must (intro v9 w9 hr9 hc9); go_must (obtain ⟨A9, n9, cap9, rfl⟩ := R_sl hr9.out)))
              have hfin := SW.go2 hS.out (Chg.refl _ wr) hq7.out hn7.out (Chg.refl _ W7) hR6.out hc6.out (S := fun k => W7.heap.size ≤ k) (Chg.refl _ w6) (fun k hk => hk)
              go_roundw
              case measure => first | (simp [intOf]; done) | (simp [intOf]; omega)
              case rel =>
                have hfin2 := hfin.1.chg (S := fun b => (slv (TA, tn, tc)).ownBlock = some b) hc9.out (fun b hb h => hT.out.gn b h)
                exact ⟨k + 1, i1, jj, e1, ff, A9, n9, cap9, ts ++ [(A6, n6, cap6)], by go_num, rfl, by omega, by rw [List.length_append]; simp; omega, ⟨hfin2⟩, ⟨TD.snoc hT.out f6 hcE.out hr6.out hn7.out.size hll.out hc9.out hr9.out⟩⟩
          · have d5 : (kd == 5) = false := by simpa using h5
            clear h5
            go_wp2_with (go_at_call 19; go_must (refine (hget.out _ (hS.out.k2.chg hn7.out (fun j hj h1 h2 => by omega)) (by omega)).mono ?_); go_must (rintro ev w6 ⟨v6, rfl, hr6, hR6, hc6⟩); go_must (obtain ⟨A6, n6, cap6, rfl⟩ := R_sl hr6); go_must (have hb6 := hc6.blk hb7.out (by omega)); go_must (have hG6 := hc6.blk hG7.out (by omega)); go_must (obtain ⟨b0, b1, b2, _, _, _⟩ := cells3 hb6); go_must (obtain ⟨c0, c1, c2, _, _, _⟩ := cells3 hG6); go_must (have m0 := cellM b0 (.cells #[.int .u64 x, .string sb, .int .i64 eg] 43)); go_must (have m1 := cellM b1 (.cells #[.int .u64 x, .string sb, .int .i64 eg] 43)); go_must (have m2 := cellM b2 (.cells #[.int .u64 x, .string sb, .int .i64 eg] 43)); go_must (have o0 := cellM c0 (.cells #[.int .u64 x, .string sb, .int .i64 eg] 43)); go_must (have o1 := cellM c1 (.cells #[.int .u64 x, .string sb, .int .i64 eg] 43)); go_must (have o2 := cellM c2 (.cells #[.int .u64 x, .string sb, .int .i64 eg] 43)); go_must (have hz6 := hc6.size); go_must (have hcE : Aside0 (Chg (fun k => k ≤ e) wr w6) := ⟨(hn7.out.mono (fun k hk h => by omega)).trans hc6 (fun k hk h => by omega)⟩); go_must (replace hb6 := Aside0.mk hb6); go_must (replace hr6 := Aside0.mk hr6); go_must (replace hR6 := Aside0.mk hR6); go_must (replace hc6 := Aside0.mk hc6); go_must (clear hG6))
            have hfin := SW.go2 hS.out (Chg.refl _ wr) hq7.out hn7.out (Chg.refl _ W7) hR6.out hc6.out (S := fun k => W7.heap.size ≤ k) (((Chg.refl (fun _ => False) w6).alloc (.cells #[.int .u64 x, .string sb, .int .i64 eg] 43)).mono (fun _ _ h => h.elim)) (fun k hk => hk)
            go_roundw
            case measure => first | (simp [intOf]; done) | (simp [intOf]; omega)
            case rel => exact ⟨k + 1, i1, jj, e1, ff, TA, tn, tc, ts, by go_num, rfl, by omega, by omega, ⟨hfin.1⟩, ⟨hT.out.chg hfin.2 (fun _ _ h => h)⟩⟩)
    · obtain rfl : k = row.length := by omega
      obtain ⟨f1, f2, f3, f4, f5, f6⟩ := hS.out.le
      go_wp2_with (first | (go_at_call 20; go_must (refine (td_Apart hT.out (by omega)).mono ?_); go_must (rintro ev w8 ⟨rfl, hc8⟩); go_must (have hS8 := Aside0.mk (hS.out.chg hc8 (fun k hk h => h))); go_must (obtain ⟨ya, yb, _, _⟩ := cells2 hS8.out.arr); go_must (replace hc8 := Aside0.mk hc8)) | (go_at_call_of 21 g1; go_must (refine (law_closes _ _ _ g1 r1 _ _ _ hS8.out.k1 hS8.out.q1).mono ?_); go_must (rintro ev w9 ⟨rfl, hD1⟩); go_must (have hS9 := Aside0.mk (hS8.out.chg (chg_drawn0 (S := fun _ => False) hD1) (fun k hk h => h.elim))); go_must (obtain ⟨ya, yb, _, _⟩ := cells2 hS9.out.arr)) | (go_at_call_of 21 g2; go_must (refine (law_closes _ _ _ g2 r2 _ _ _ hS9.out.k2 hS9.out.q2).mono ?_); go_must (rintro ev w10 ⟨rfl, hD2⟩); go_must (have hcC := Aside0.mk ((chg_drawn0 (S := fun _ => False) hD1).trans (chg_drawn0 (S := fun _ => False) hD2) (fun _ _ h => h)))))
      go_ret
      exact ⟨rfl, (hS.out.bel.trans (hc8.out.trans hcC.out (fun _ _ h => h.elim)) (fun k hk h => by have := hS.out.bel.size; omega)).below (fun _ _ h => h)⟩

end Go.Proofs.Ytbheebcjbolboaa.K
