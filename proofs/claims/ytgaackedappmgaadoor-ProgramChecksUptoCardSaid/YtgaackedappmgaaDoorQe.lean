import Derived.Test.YtgaackedappmgaaDoorQd
import Derived.IntWalk
import Derived.BigQuiet
import Derived.Deep.RegionHeld3
namespace Go.Proofs.YtgaackedappmgaaDoor.K
open Go.RowKit Go.Proofs.YtgaackedappmgaaDoorW.PrintWords Go.Proofs.YtgaackedappmgaaDoorW.PrintLast Go.Proofs.YtgaackedappmgaaDoorW.PrintMore
set_option linter.unusedVariables false
set_option linter.unusedSimpArgs false
set_option maxRecDepth 100000
theorem kQC_own {w : World} {g n : Nat} {l : List QC} (h : Kd.C kQC w (some ⟨g, 0, none⟩) n l) (i : Nat) (h1 : i < n) : ∃ kd1 n1 t1, l[i]? = some ⟨kd1, n1, t1⟩ ∧ w.cell? ⟨g, i * 3, none⟩ = some (.int .i64 kd1) ∧
    w.cell? ⟨g, i * 3 + 1, none⟩ = some (.int .i64 n1) ∧ w.cell? ⟨g, i * 3 + 2, none⟩ = some (.string t1) := by
  obtain ⟨ad, a, b, c, e1, e2, x0, x1, x2⟩ := kQC_at h i h1
  injection e1 with e1
  subst e1
  rw [add_plain] at x0 x1 x2
  exact ⟨a, b, c, e2, x0, x1, x2⟩
theorem raw_ownC {w : World} {g N : Nat} {rs : List QR} {r : QR} (h : Kd.C kQR w (some ⟨g, 0, none⟩) N rs) (i : Nat) (hi : i < N) (hr : rs[i]? = some r) : w.cell? ⟨g, i * 5, none⟩ = some (.string r.name) ∧
    w.cell? ⟨g, i * 5 + 1, none⟩ = some (.int .i64 r.pars) ∧ w.cell? ⟨g, i * 5 + 2, none⟩ = some (.int .i64 r.locs) ∧ w.cell? ⟨g, i * 5 + 3, none⟩ = some (.slice r.code.1 r.code.2.1 r.code.2.2) ∧ w.cell? ⟨g, i * 5 + 4, none⟩ = some (.slice r.hnd.1 r.hnd.2.1 r.hnd.2.2) := by
  obtain ⟨ad, q, e1, e2, g0, g1, g2, g3, g4⟩ := raw_at h i hi
  injection e1 with e1
  subst e1
  rw [hr] at e2
  injection e2 with e2
  subst e2
  rw [add_plain] at g0 g1 g2 g3 g4
  exact ⟨g0, g1, g2, g3, g4⟩
theorem C_head {α : Type} {d : Kd α} {w : World} {A : Option Addr} {n : Nat} {a b : List α} (h : d.C w A n (a ++ b)) : d.C w A a.length a := by
  have h0 := h.1
  subst h0
  have := Kd.C_take (m := a.length) h (by rw [List.length_append]; omega)
  rw [List.take_append_of_le_length (Nat.le_refl _), List.take_length] at this
  exact this
set_option maxHeartbeats 4000000
theorem kit_KeptProgram (w : World) (cA fA : Option Addr) (gC gF c d cc fc : Nat) (p : QP) (rs fs : List QR) (hL0 : LPV w gC gF p fs) (hcc : p.consts.length + 64 ≤ c) (hdd : 2 * p.funcs.length + 64 ≤ d) (hP : PV w cA fA p rs) (hn : p.consts.length ≤ 1048576) (hm : p.funcs.length ≤ 1048576) (hcode : ∀ f ∈ p.funcs, f.code.length ≤ 1048576 ∧ f.hnd.length ≤ 1048576) :
    Calls Tryd.prog 12 #[.agg #[.slice (some ⟨gC, 0, none⟩) p.consts.length c, .slice (some ⟨gF, 0, none⟩) p.funcs.length d], .agg #[.slice cA p.consts.length cc, .slice fA p.funcs.length fc]] w fun e w' => e = .returned (.bool true) ∧ Chg (fun _ => False) w w' := by
  have hPA := Aside0.mk hP
  have hLA := Aside0.mk hL0
  have hco := Aside0.mk hcode
  have hcc1 : (p.consts.length : Int) + 64 ≤ c := by omega
  have hdd1 : 2 * (p.funcs.length : Int) + 64 ≤ d := by omega
  clear hP hL0 hcode
  go_enter Tryd.func12, Tryd.ntmps12
  go_wp2
  generalize hW : World.alloc (World.alloc w _) _ = W0
  have hc0 : Aside0 (Chg (fun _ => False) w W0) := ⟨by rw [← hW]; exact ((Chg.refl _ w).alloc _).alloc _⟩
  have hb1 : Aside0 (W0.heap[w.heap.size + 1]? = some (.cells #[.slice cA p.consts.length cc, .slice fA p.funcs.length fc] 25 (0, 0))) := ⟨by rw [← hW]; exact heap_alloc2_new w _ _⟩
  obtain ⟨b1, hb1E⟩ : ∃ b1, b1 = w.heap.size + 1 := ⟨_, rfl⟩
  rw [← hb1E] at hb1 ⊢
  have hbo : Aside0 (w.heap.size < b1) := ⟨by omega⟩
  clear hW hb1E
  go_loopw [8, 9] (fun ix _ wr => ∃ k : Nat, ix = .int .i64 k ∧ k ≤ p.consts.length + 64 ∧ Aside0 (Chg (fun _ => False) W0 wr)) (fun ix _ _ => p.consts.length + 64 - (intOf ix).toNat)
  case atStart => exact ⟨0, rfl, by omega, ⟨Chg.refl _ _⟩⟩
  case round =>
    obtain ⟨k, rfl, hk, hCh⟩ := hrel
    have hbp := hCh.out.blk hb1.out (fun h => h)
    obtain ⟨p0, p1⟩ : wr.cell? ⟨b1, 0, none⟩ = some (.slice cA p.consts.length cc) ∧ wr.cell? ⟨b1, 1, none⟩ = some (.slice fA p.funcs.length fc) := ⟨blk_cell hbp 0, blk_cell hbp 1⟩
    have hCw : Aside0 (Chg (fun _ => False) w wr) := ⟨hc0.out.trans hCh.out (fun _ _ h => h)⟩
    clear hbp
    by_cases hlt : k < p.consts.length + 64
    · have hk0 : (0 : Int) ≤ k := by omega
      have hk1 : (k : Int) < (p.consts.length : Int) + 64 := by omega
      obtain ⟨kd1, n1, t1, e2, x0, x1, x2⟩ := kQC_own (Kd.C_below hLA.out.cs (hCw.out.below (fun _ _ h => h))) k hlt
      by_cases hin : k < p.consts.length
      · obtain ⟨ad, kd2, n2, t2, e3, e4, y0, y1, y2⟩ := kQC_at (Kd.C_below hPA.out.cs (hCw.out.below (fun _ _ h => h))) k hin
        subst e3
        rw [List.getElem?_append_left hin, e4] at e2
        injection e2 with e2
        injection e2 with q0 q1 q2
        subst q0 q1 q2
        clear e4
        have hk2 : (k : Int) < p.consts.length := by omega
        have p0a := cellQ p0 (.cells #[.int .i64 (-7), .int .i64 ((k : Int) - p.consts.length), .string ⟨#[]⟩] 39)
        have y0a := cellQ y0 (.cells #[.int .i64 (-7), .int .i64 ((k : Int) - p.consts.length), .string ⟨#[]⟩] 39)
        have y1a := cellQ y1 (.cells #[.int .i64 (-7), .int .i64 ((k : Int) - p.consts.length), .string ⟨#[]⟩] 39)
        have y2a := cellQ y2 (.cells #[.int .i64 (-7), .int .i64 ((k : Int) - p.consts.length), .string ⟨#[]⟩] 39)
        have x0a := cellQ x0 (.cells #[.int .i64 kd2, .int .i64 n2, .string t2] 39)
        have x1a := cellQ x1 (.cells #[.int .i64 kd2, .int .i64 n2, .string t2] 39)
        have x2a := cellQ x2 (.cells #[.int .i64 kd2, .int .i64 n2, .string t2] 39)
        go_wp2
        go_quiet (fail)
        go_wp2
        go_roundw
        case measure => first | (simp [intOf]; done) | (simp [intOf]; omega)
        case rel => exact ⟨k + 1, by go_num, by omega, ⟨by repeat (first | exact hCh.out | apply Chg.drewN | apply Chg.alloc | (refine Chg.setCell ?_ (fun h => ?_) _))⟩⟩
      · rw [List.getElem?_append_right (by omega), kQCMarks, List.getElem?_map, List.getElem?_range (by omega)] at e2
        simp only [Option.map_some, Option.some.injEq, QC.mk.injEq] at e2
        obtain ⟨q0, q1, q2⟩ := e2
        subst q0 q2
        have hk2 : ¬ (k : Int) < p.consts.length := by omega
        have hs : (k : Int) - (p.consts.length : Int) = n1 := by rw [← q1]; simp only [Int.ofNat_eq_natCast]; omega
        clear q1
        have p0a := cellQ p0 (.cells #[.int .i64 (-7), .int .i64 n1, .string ⟨#[]⟩] 39)
        have x0a := cellQ x0 (.cells #[.int .i64 (-7), .int .i64 n1, .string ⟨#[]⟩] 39)
        have x1a := cellQ x1 (.cells #[.int .i64 (-7), .int .i64 n1, .string ⟨#[]⟩] 39)
        have x2a := cellQ x2 (.cells #[.int .i64 (-7), .int .i64 n1, .string ⟨#[]⟩] 39)
        go_wp2
        go_quiet (fail)
        go_wp2
        go_roundw
        case measure => first | (simp [intOf]; done) | (simp [intOf]; omega)
        case rel => exact ⟨k + 1, by go_num, by omega, ⟨by repeat (first | exact hCh.out | apply Chg.drewN | apply Chg.alloc | (refine Chg.setCell ?_ (fun h => ?_) _))⟩⟩
    · have hk1 : ¬ (k : Int) < (p.consts.length : Int) + 64 := by omega
      clear hCw p0 p1
      go_wp2
      go_loopw [10, 11, 12] (fun ix _ _ wr => ∃ k : Nat, ix = .int .i64 k ∧ k ≤ p.funcs.length ∧ Aside0 (Chg (fun _ => False) W0 wr)) (fun ix _ _ _ => p.funcs.length - (intOf ix).toNat)
      case atStart => exact ⟨0, rfl, by omega, hCh⟩
      case round =>
        clear hCh
        obtain ⟨k, rfl, hk, hCh⟩ := hrel
        have hCw : Aside0 (Chg (fun _ => False) w wr) := ⟨hc0.out.trans hCh.out (fun _ _ h => h)⟩
        have hbp := hCh.out.blk hb1.out (fun h => h)
        have p1 : wr.cell? ⟨b1, 1, none⟩ = some (.slice fA p.funcs.length fc) := blk_cell hbp 1
        clear hbp
        by_cases hlt : k < p.funcs.length
        · have hk0 : (0 : Int) ≤ k := by omega
          have hk1 : (k : Int) < p.funcs.length := by omega
          have hPr := hPA.out.below (hCw.out.below (fun _ _ h => h))
          have hLr := hLA.out.below (hCw.out.below (fun _ _ h => h))
          obtain ⟨ad, r, e1, e2, x0, x1, x2, x3, x4⟩ := raw_at hPr.fs k hlt
          subst e1
          obtain ⟨f, hf⟩ : ∃ f, p.funcs[k]? = some f := ⟨_, List.getElem?_eq_getElem hlt⟩
          obtain ⟨g0, g1, g2, g3, g4⟩ := hPr.raw k r f e2 hf
          obtain ⟨r2, m2, u1, u2, u3, u4, u5, u6, u7, u8, u9, u10, u11, u12⟩ := hLr.hd k f hf
          obtain ⟨z0, z1, z2, z3, z4⟩ := raw_ownC hLr.rows k (by omega) u1
          obtain ⟨_, _, _, v3, v4⟩ := raw_ownC hLr.rows (p.funcs.length + k) (by omega) u2
          have t3 := C_head u11
          have t4 := C_head u12
          rw [u3] at z0
          rw [u4] at z1
          rw [u5] at z2
          rw [u6] at z3
          rw [u7] at z4
          rw [g0] at x0
          rw [g1] at x1
          rw [g2] at x2
          rw [← g3.1] at x3
          rw [← g4.1] at x4
          rw [← g3.1] at g3
          rw [← g4.1] at g4
          obtain ⟨j, hj⟩ : ∃ j, j = p.funcs.length + k := ⟨_, rfl⟩
          rw [← hj] at v3 v4
          have hs : (p.funcs.length : Int) + (k : Int) = (j : Int) := by omega
          have hsw : IntKind.i64.wrap (j : Int) = (j : Int) := by simp [IntKind.wrap, IntKind.bits, IntKind.signed]; omega
          have hj0 : (0 : Int) ≤ j := by omega
          have hj1 : (j : Int) < 2 * (p.funcs.length : Int) + 64 := by omega
          have hk9 : (k : Int) < 2 * (p.funcs.length : Int) + 64 := by omega
          have hlen := Aside0.mk (hco.out f (List.mem_of_getElem? hf))
          clear e2 hf u1 u2 u3 u4 u5 u6 u7 u8 u9 u10 g0 g1 g2 hPr hLr
          replace g3 := Aside0.mk g3
          replace g4 := Aside0.mk g4
          replace t3 := Aside0.mk t3
          replace t4 := Aside0.mk t4
          replace u11 := Aside0.mk u11
          replace u12 := Aside0.mk u12
          replace hj := Aside0.mk hj
          have z0a := cellQ z0 (.cells #[.string f.name, .int .i64 f.pars, .int .i64 f.locs, .slice r.code.1 f.code.length r.code.2.2, .slice r.hnd.1 f.hnd.length r.hnd.2.2] 47)
          have z1a := cellQ z1 (.cells #[.string f.name, .int .i64 f.pars, .int .i64 f.locs, .slice r.code.1 f.code.length r.code.2.2, .slice r.hnd.1 f.hnd.length r.hnd.2.2] 47)
          have z2a := cellQ z2 (.cells #[.string f.name, .int .i64 f.pars, .int .i64 f.locs, .slice r.code.1 f.code.length r.code.2.2, .slice r.hnd.1 f.hnd.length r.hnd.2.2] 47)
          have z3a := cellQ z3 (.cells #[.string f.name, .int .i64 f.pars, .int .i64 f.locs, .slice r.code.1 f.code.length r.code.2.2, .slice r.hnd.1 f.hnd.length r.hnd.2.2] 47)
          have z4a := cellQ z4 (.cells #[.string f.name, .int .i64 f.pars, .int .i64 f.locs, .slice r.code.1 f.code.length r.code.2.2, .slice r.hnd.1 f.hnd.length r.hnd.2.2] 47)
          go_wp2_with (first | (go_at_call 29; (go_must (refine (kit_sameInstrs _ _ _ _ _ _ _ _ (Kd.C_alloc (Kd.C_alloc t3.out _) _) (Kd.C_alloc (Kd.C_alloc g3.out _) _)).mono ?_); go_must (rintro e w3 ⟨rfl, hc3⟩); go_must (have hz3 : Chg (fun _ => False) wr w3 := (((Chg.refl (fun _ => False) wr).alloc _).alloc _).trans hc3 (fun _ _ h => h)); go_must (have hbf := ((Chg.refl (fun _ => False) (wr.alloc _)).alloc _).trans hc3 (fun _ _ h => h)); go_must (have hbf3 := hbf.blk (heap_alloc_new wr _) (fun h => h)); go_must (have hbg3 := hc3.blk (heap_alloc2_new wr _ _) (fun h => h)); go_must (have f34 := blk_cell hbf3 4); go_must (have g34 := blk_cell hbg3 4); go_must (replace hbf3 := Aside0.mk hbf3); go_must (replace hz3 := Aside0.mk hz3); go_must (clear hbf hc3 hbg3))) | (go_at_call 30; (go_must (refine (kit_sameHandlers _ _ _ _ _ _ _ _ (C_chg t4.out (hz3.out.below (fun _ _ h => h))) (C_chg g4.out (hz3.out.below (fun _ _ h => h)))).mono ?_); go_must (rintro e w4 ⟨rfl, hc4⟩); go_must (have hz4 := hz3.out.trans hc4 (fun _ _ h => h)); go_must (have hbf4 := hc4.blk hbf3.out (fun h => h)); go_must (have f43 := blk_cell hbf4 3); go_must (have f44 := blk_cell hbf4 4); go_must (have v43 := cell_keepQ hz4 (fun h => h) v3); go_must (have v44 := cell_keepQ hz4 (fun h => h) v4); go_must (replace hbf4 := Aside0.mk hbf4); go_must (replace hz4 := Aside0.mk hz4); go_must (clear hbf3 hz3 hc4 v3 v4))) | fail)
          clear hsw z0a z1a z2a z3a z4a z0 z1 z2 z3 z4 x0 x1 x2 x3 x4 p1
          have hsw : IntKind.i64.wrap (j : Int) = (j : Int) := by simp [IntKind.wrap, IntKind.bits, IntKind.signed]; omega
          go_region_held3 (fun w' => w'.cell? ⟨gF, j * 5 + 3, none⟩ = some (.slice m2.code.1 m2.code.2.1 m2.code.2.2) ∧ w'.cell? ⟨gF, j * 5 + 4, none⟩ = some (.slice m2.hnd.1 m2.hnd.2.1 m2.hnd.2.2) ∧ w'.cell? ⟨wr.heap.size, 3, none⟩ = some (.slice r.code.1 f.code.length r.code.2.2) ∧ w'.cell? ⟨wr.heap.size, 4, none⟩ = some (.slice r.hnd.1 f.hnd.length r.hnd.2.2)) (first | with_reducible exact ⟨v43, v44, f43, f44⟩ | with_reducible exact ⟨v53, v54, f53, f54⟩ | with_reducible exact ⟨v63, v64, f63, f64⟩ | go_keep) (first | (go_at_call 31; (go_must (refine (kit_KeptInstrs _ _ _ _ _ _ _ _ (Kd.C_drew (C_chg u11.out (hz4.out.below (fun _ _ h => h)))) (Kd.C_drew (C_chg g3.out (hz4.out.below (fun _ _ h => h)))) hlen.out.1).mono ?_); go_must (rintro e w5 ⟨rfl, hc5⟩); go_must (have hz45 := ((Chg.refl (fun _ => False) w4).drew).trans hc5 (fun _ _ h => h)); go_must (have v53 := cell_keepQ hz45 (fun h => h) v43); go_must (have v54 := cell_keepQ hz45 (fun h => h) v44); go_must (have f53 := cell_keepQ hz45 (fun h => h) f43); go_must (have f54 := cell_keepQ hz45 (fun h => h) f44); go_must (have hz5 := Aside0.mk (hz4.out.trans hz45 (fun _ _ h => h))); go_must (clear hz45 hc5))) | (go_at_call 32; (go_must (refine (kit_keptHandlers _ _ _ _ _ _ _ _ (C_chg u12.out (hz5.out.below (fun _ _ h => h))) (C_chg g4.out (hz5.out.below (fun _ _ h => h))) hlen.out.2).mono ?_); go_must (rintro e w6 ⟨rfl, hc6⟩); go_must (have v63 := cell_keepQ hc6 (fun h => h) v53); go_must (have v64 := cell_keepQ hc6 (fun h => h) v54); go_must (have f63 := cell_keepQ hc6 (fun h => h) f53); go_must (have f64 := cell_keepQ hc6 (fun h => h) f54); go_must (have hz6 := Aside0.mk (hz5.out.trans hc6 (fun _ _ h => h))); go_must (clear hc6))))
          all_goals (
            go_wp2
            clear hsw
            go_roundw
            case measure => first | (simp [intOf]; done) | (simp [intOf]; omega)
            case rel => exact ⟨k + 1, by go_num, by omega, ⟨hCh.out.trans hz6.out (fun _ _ h => h)⟩⟩)
        · obtain rfl : k = p.funcs.length := by omega
          clear p1
          go_wp2
          go_loopw [13, 14] (fun ix _ wr => ∃ k : Nat, ix = .int .i64 k ∧ k ≤ p.funcs.length + 64 ∧ Aside0 (Chg (fun _ => False) W0 wr)) (fun ix _ _ => p.funcs.length + 64 - (intOf ix).toNat)
          case atStart => exact ⟨0, rfl, by omega, hCh⟩
          case round =>
            clear hCh hCw
            obtain ⟨k, rfl, hk, hCh⟩ := hrel
            have hCw : Aside0 (Chg (fun _ => False) w wr) := ⟨hc0.out.trans hCh.out (fun _ _ h => h)⟩
            by_cases hlt : k < p.funcs.length + 64
            · have hk0 : (0 : Int) ≤ k := by omega
              have hk1 : (k : Int) < p.funcs.length + 64 := by omega
              have hLr := hLA.out.below (hCw.out.below (fun _ _ h => h))
              obtain ⟨j, hj⟩ : ∃ j, j = p.funcs.length + k := ⟨_, rfl⟩
              have hs : (p.funcs.length : Int) + (k : Int) = (j : Int) := by omega
              have hsw : IntKind.i64.wrap (j : Int) = (j : Int) := by simp [IntKind.wrap, IntKind.bits, IntKind.signed]; omega
              have hj0 : (0 : Int) ≤ j := by omega
              have hj1 : (j : Int) < 2 * (p.funcs.length : Int) + 64 := by omega
              by_cases hin : k < p.funcs.length
              · have hk2 : (k : Int) < p.funcs.length := by omega
                obtain ⟨f, hf⟩ : ∃ f, p.funcs[k]? = some f := ⟨_, List.getElem?_eq_getElem hin⟩
                obtain ⟨r2, m2, u1, u2, u3, u4, u5, u6, u7, u8, u9, u10, u11, u12⟩ := hLr.hd k f hf
                obtain ⟨v0, v1, v2, v3, v4⟩ := raw_ownC hLr.rows (p.funcs.length + k) (by omega) u2
                rw [u8] at v0
                rw [u9] at v1
                rw [u10] at v2
                rw [← hj] at v0 v1 v2 v3 v4
                replace hj := Aside0.mk hj
                clear hLr hf u1 u2 u3 u4 u5 u6 u7 u8 u9 u10 u11 u12
                go_wp2
                go_roundw
                case measure => first | (simp [intOf]; done) | (simp [intOf]; omega)
                case rel => exact ⟨k + 1, by go_num, by omega, ⟨by repeat (first | exact hCh.out | apply Chg.drewN | apply Chg.alloc | (refine Chg.setCell ?_ (fun h => ?_) _))⟩⟩
              · have hk2 : ¬ (k : Int) < p.funcs.length := by omega
                obtain ⟨i, rfl⟩ : ∃ i, k = p.funcs.length + i := ⟨k - p.funcs.length, by omega⟩
                have hu := hLr.tl i (by omega)
                obtain ⟨v0, v1, v2, v3, v4⟩ := raw_ownC hLr.rows (2 * p.funcs.length + i) (by omega) hu
                rw [show 2 * p.funcs.length + i = j by omega] at v0 v1 v2 v3 v4
                generalize hki : p.funcs.length + i = k at hk0 hk1 hk2 hlt hk hs hj ⊢
                rw [show (p.funcs.length : Int) + (i : Int) = (k : Int) by omega] at v2
                simp only at v0 v1 v2 v3 v4
                replace hj := Aside0.mk hj
                replace hki := Aside0.mk hki
                clear hLr hu
                go_wp2
                go_roundw
                case measure => first | (simp [intOf]; done) | (simp [intOf]; omega)
                case rel => exact ⟨k + 1, by go_num, by omega, ⟨by repeat (first | exact hCh.out | apply Chg.drewN | apply Chg.alloc | (refine Chg.setCell ?_ (fun h => ?_) _))⟩⟩
            · obtain rfl : k = p.funcs.length + 64 := by omega
              go_wp2
              go_ret
              exact ⟨rfl, hCw.out⟩
end Go.Proofs.YtgaackedappmgaaDoor.K
