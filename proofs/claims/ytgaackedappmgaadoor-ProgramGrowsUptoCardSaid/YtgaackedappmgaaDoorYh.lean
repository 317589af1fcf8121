import Derived.Test.YtgaackedappmgaaDoorYg
import Derived.IntWalk
import Derived.BigQuiet
namespace Go.Proofs.YtgaackedappmgaaDoor.K
open Go.RowKit Go.Proofs.YtgaackedappmgaaDoorW.PrintWords Go.Proofs.YtgaackedappmgaaDoorW.PrintLast Go.Proofs.YtgaackedappmgaaDoorW.PrintMore
set_option linter.unusedVariables false
set_option linter.unusedSimpArgs false
set_option maxRecDepth 100000
set_option maxHeartbeats 4000000
theorem ref_where (w : World) (fn pc : Int) : Calls Tryd.prog 24 #[.int .i64 fn, .int .i64 pc] w fun e w' => e = .returned (.agg #[.int .i64 fn, .int .i64 pc]) ∧ Chg (fun _ => False) w w' := by
  go_enter Tryd.func24, Tryd.ntmps24
  go_wp2
  (try simp only [Exit.inBlock, Exit.then])
  refine bodyPost_ret (results_cell1 rfl _ _ _ _ rfl _ (run_loadVar_row _ _ _ _ _ _ _ (heap_alloc_new w _) Tryd.underlying28 rfl (by kernel_rfl))) rfl ?_
  exact ⟨rfl, cg⟩
structure PSm (p : QP) : Prop where
  c : p.consts.length ≤ 1048576
  f : p.funcs.length ≤ 1048576
  fs : ∀ f ∈ p.funcs, f.name.size ≤ 140737488351232 ∧ f.code.length ≤ 1048576 ∧ f.hnd.length ≤ 1048576
theorem funcs_none {p : QP} : ∀ {l : List QF} {i : Nat}, (∀ k f, l[k]? = some f → (functionP chkP p (i + k) f).2 = 0) → funcsP chkP p i l = ((0, 0), 0)
  | [], i, h => rfl
  | x :: xs, i, h => by
    have h0 := h 0 x rfl
    rw [funcsP, if_neg (by simpa using h0)]
    exact funcs_none (fun k y hy => by have := h (k + 1) y hy; rwa [show i + (k + 1) = i + 1 + k by omega] at this)
theorem funcs_at {p : QP} : ∀ {l : List QF} {i m : Nat} {x : QF}, l[m]? = some x → (∀ k f, k < m → l[k]? = some f → (functionP chkP p (i + k) f).2 = 0) → (functionP chkP p (i + m) x).2 ≠ 0 → funcsP chkP p i l = ((((i + m : Nat) : Int), (functionP chkP p (i + m) x).1), (functionP chkP p (i + m) x).2)
  | [], i, m, x, h, _, _ => by cases h
  | y :: ys, i, 0, x, h, _, h2 => by
    cases h
    rw [funcsP, if_pos (by simpa using h2)]
    rfl
  | y :: ys, i, m + 1, x, h, h1, h2 => by
    have h0 := h1 0 y (by omega) rfl
    rw [funcsP, if_neg (by simpa using h0), show i + (m + 1) = i + 1 + m by omega]
    refine funcs_at h (fun k z hk hz => ?_) (by rwa [show i + (m + 1) = i + 1 + m by omega] at h2)
    have := h1 (k + 1) z (by omega) hz
    rwa [show i + (k + 1) = i + 1 + k by omega] at this
theorem ref_Check8 (w : World) (cA fA : Option Addr) (cc fc : Nat) (p : QP) (rs : List QR) (hV : PV w cA fA p rs) (hs : PSm p) :
    Calls Tryd.prog 9 #[.agg #[.slice cA p.consts.length cc, .slice fA p.funcs.length fc]] w fun e w' => e = .returned (.tuple #[.agg #[.int .i64 (checkP chkP p).1.1, .int .i64 (checkP chkP p).1.2], .int .i64 (checkP chkP p).2]) ∧ Chg (fun _ => False) w w' := by
  have hVA := Aside0.mk hV
  have hS := Aside0.mk hs
  have hn1 := hs.c
  have hn2 := hs.f
  clear hV hs
  go_enter Tryd.func9, Tryd.ntmps9
  go_upto_region 1 with (fail)
  (try simp only [Act.put, List.setIfInBounds_toArray, List.set_cons_zero, List.set_cons_succ])
  generalize hW : World.alloc (World.alloc w _) _ = W0
  have B1 : Aside0 (W0.heap[w.heap.size]? = some (.cells #[.slice cA p.consts.length cc, .slice fA p.funcs.length fc] 25)) := ⟨by rw [← hW]; exact ((Chg.refl (fun _ => False) (w.alloc _)).alloc _).blk (heap_alloc_new w _) (fun e => e)⟩
  have B2 : Aside0 (W0.heap[w.heap.size + 1]? = some (.cells #[.int .i64 0, .int .i64 0] 28)) := ⟨by rw [← hW]; exact heap_alloc2_new w _ _⟩
  have hz0 : Aside0 (Chg (fun _ => False) w W0) := ⟨by rw [← hW]; exact cg⟩
  clear hW
  have p0 : W0.cell? ⟨w.heap.size, 0, none⟩ = some (.slice cA p.consts.length cc) := blk_cell B1.out 0
  by_cases hc : 512 < p.consts.length
  · have he : Aside0 (checkP chkP p = ((-1, 512), 5)) := ⟨by unfold checkP; rw [if_pos hc]⟩
    have hc1 : (512 : Int) < p.consts.length := by omega
    clear hc
    go_wp2_with (go_at_call 24; go_must (refine (ref_where _ _ _).mono ?_); go_must (rintro e w3 ⟨rfl, hc3⟩); go_must (have B3 := hc3.blk B2.out (fun h => h)); go_must (have t0 := blk_cell B3 0); go_must (have t1 := blk_cell B3 1); go_must (have u0 := blk_frozen B3 0); go_must (have u1 := blk_frozen B3 1); go_must (replace B3 := Aside0.mk B3); go_must (replace hc3 := Aside0.mk hc3))
    (try simp only [Exit.inBlock, Exit.then])
    refine bodyPost_ret (results_c2 rfl _ _ _ _ rfl _ (run_loadVar_row _ _ _ _ _ _ _ (blk_set (blk_set B3.out 0 (.int .i64 (-1))) 1 (.int .i64 512)) Tryd.underlying28 rfl (by kernel_rfl))) rfl ?_
    exact ⟨by first | (rw [he.out]; done) | (rw [he.out]; rfl) | (simp [he.out]; done), (hz0.out.trans hc3.out (fun _ _ h => h)).trans (Chg.setCell (Chg.setCell (Chg.refl (fun k => k = w.heap.size + 1) _) (p := ⟨w.heap.size + 1, 0, none⟩) (fun _ => rfl) (.int .i64 (-1))) (p := ⟨w.heap.size + 1, 1, none⟩) (fun _ => rfl) (.int .i64 512)) (fun k hk h => by omega)⟩
  have hc1 : ¬ (512 : Int) < p.consts.length := by omega
  have hE : Aside0 (checkP chkP p = match firstBad (constP p.consts) 0 p.consts with
    | some (i, e) => ((-1, (i : Int)), e)
    | none =>
      if p.funcs.length = 0 then ((0, 0), 2)
      else if 128 < p.funcs.length then ((128, 0), 5)
      else funcsP chkP p 0 p.funcs) := ⟨by unfold checkP; rw [if_neg hc]; rfl⟩
  clear hc
  go_wp2
  clear p0 hc1
  go_loopw [4, 5] (fun i4 _ wr => ∃ i : Nat, i4 = .int .i64 i ∧ i ≤ p.consts.length ∧ Aside0 (∀ (m : Nat) (c : QC), m < i → p.consts[m]? = some c → constP p.consts m c = 0) ∧ Aside0 (Chg (fun _ => False) W0 wr)) (fun i4 _ _ => p.consts.length - (intOf i4).toNat)
  case atStart => exact ⟨0, rfl, by omega, ⟨fun m x hm => by omega⟩, ⟨Chg.refl _ _⟩⟩
  case round =>
    obtain ⟨i, rfl, hi, hN, hCh⟩ := hrel
    have hz1 : Aside0 (Chg (fun _ => False) w wr) := ⟨hz0.out.trans hCh.out (fun _ _ h => h)⟩
    replace B1 := Aside0.mk (hCh.out.blk B1.out (fun h => h))
    replace B2 := Aside0.mk (hCh.out.blk B2.out (fun h => h))
    have p0 : wr.cell? ⟨w.heap.size, 0, none⟩ = some (.slice cA p.consts.length cc) := blk_cell B1.out 0
    by_cases hlt : i < p.consts.length
    · have hi0 : (0 : Int) ≤ i := by omega
      have hi1 : (i : Int) < p.consts.length := by omega
      obtain ⟨c, hcx⟩ : ∃ c, p.consts[i]? = some c := ⟨_, List.getElem?_eq_getElem hlt⟩
      have hcA := Aside0.mk hcx
      have hcall : Aside0 (Calls Tryd.prog 25 #[.slice cA p.consts.length cc, .int .i64 i] wr fun e w' => e = .returned (.int .i64 (constP p.consts i c)) ∧ Chg (fun _ => False) wr w') := ⟨ref_constant wr cA cc p.consts i c (hVA.out.below (hz1.out.below (fun _ _ h => h))).cs hn1 hcx⟩
      clear hcx
      by_cases hb : constP p.consts i c = 0
      · have hN2 : Aside0 (∀ (m : Nat) (c : QC), m < i + 1 → p.consts[m]? = some c → constP p.consts m c = 0) := ⟨fun m x hm hx => by
          rcases Nat.lt_or_ge m i with h1 | h1
          · exact hN.out m x h1 hx
          · obtain rfl : m = i := by omega
            rw [hcA.out] at hx
            injection hx with hx
            rw [← hx, hb]⟩
        rw [hb] at hcall
        clear hb
        go_wp2_with (go_at_call 25; go_must (refine (hcall.out).mono ?_); go_must (rintro e w2 ⟨rfl, hc2⟩); go_must (replace hc2 := Aside0.mk hc2))
        go_roundw
        case measure => first | (simp [intOf]; done) | (simp [intOf]; omega)
        case rel => exact ⟨i + 1, by go_num, by omega, hN2, ⟨hCh.out.trans hc2.out (fun _ _ h => h)⟩⟩
      · have he : Aside0 (checkP chkP p = ((-1, (i : Int)), constP p.consts i c)) := ⟨by
          have h1 := firstBad_at (f := constP p.consts) (i := 0) hcA.out (fun m y hm hy => by rw [Nat.zero_add]; exact hN.out m y hm hy) (by rwa [Nat.zero_add])
          rw [Nat.zero_add] at h1
          rw [hE.out, h1]⟩
        have hb' : (constP p.consts i c != 0) = true := by simpa using hb
        clear hb
        generalize constP p.consts i c = z at hcall he hb'
        go_upto_region 8 with (go_at_call 25; go_must (refine (hcall.out).mono ?_); go_must (rintro e w2 ⟨rfl, hc2⟩); go_must (replace hc2 := Aside0.mk hc2))
        (try simp only [Act.put, List.setIfInBounds_toArray, List.set_cons_zero, List.set_cons_succ])
        replace B2 := Aside0.mk (hc2.out.blk B2.out (fun h => h))
        replace hz1 := Aside0.mk (hz1.out.trans hc2.out (fun _ _ h => h))
        go_wp2_with (go_at_call 24; go_must (refine (ref_where _ _ _).mono ?_); go_must (rintro e w3 ⟨rfl, hc3⟩); go_must (have B3 := hc3.blk B2.out (fun h => h)); go_must (have t0 := blk_cell B3 0); go_must (have t1 := blk_cell B3 1); go_must (have u0 := blk_frozen B3 0); go_must (have u1 := blk_frozen B3 1); go_must (replace B3 := Aside0.mk B3); go_must (replace hc3 := Aside0.mk hc3))
        (try simp only [Exit.inBlock, Exit.then])
        refine bodyPost_ret (results_c2 rfl _ _ _ _ rfl _ (run_loadVar_row _ _ _ _ _ _ _ (blk_set (blk_set B3.out 0 (.int .i64 (-1))) 1 (.int .i64 (i : Int))) Tryd.underlying28 rfl (by kernel_rfl))) rfl ?_
        exact ⟨by first | (rw [he.out]; done) | (rw [he.out]; rfl) | (simp [he.out]; done), (hz1.out.trans hc3.out (fun _ _ h => h)).trans (Chg.setCell (Chg.setCell (Chg.refl (fun k => k = w.heap.size + 1) _) (p := ⟨w.heap.size + 1, 0, none⟩) (fun _ => rfl) (.int .i64 (-1))) (p := ⟨w.heap.size + 1, 1, none⟩) (fun _ => rfl) (.int .i64 (i : Int))) (fun k hk h => by omega)⟩
    · obtain rfl : i = p.consts.length := by omega
      have hi1 : ¬ ((p.consts.length : Int) < p.consts.length) := by omega
      replace hE : Aside0 (checkP chkP p = if p.funcs.length = 0 then ((0, 0), 2) else if 128 < p.funcs.length then ((128, 0), 5) else funcsP chkP p 0 p.funcs) := ⟨by rw [hE.out, firstBad_none (fun m x hx => by rw [Nat.zero_add]; exact hN.out m x (List.getElem?_eq_some_iff.1 hx).1 hx)]⟩
      clear hN hlt
      have p1 : wr.cell? ⟨w.heap.size, 1, none⟩ = some (.slice fA p.funcs.length fc) := blk_cell B1.out 1
      by_cases h0 : p.funcs.length = 0
      · have he : Aside0 (checkP chkP p = ((0, 0), 2)) := ⟨by rw [hE.out, if_pos h0]⟩
        have h0' : ((p.funcs.length : Int) == 0) = true := by simpa using h0
        clear h0
        go_wp2_with (go_at_call 24; go_must (refine (ref_where _ _ _).mono ?_); go_must (rintro e w3 ⟨rfl, hc3⟩); go_must (have B3 := hc3.blk B2.out (fun h => h)); go_must (have t0 := blk_cell B3 0); go_must (have t1 := blk_cell B3 1); go_must (have u0 := blk_frozen B3 0); go_must (have u1 := blk_frozen B3 1); go_must (replace B3 := Aside0.mk B3); go_must (replace hc3 := Aside0.mk hc3))
        (try simp only [Exit.inBlock, Exit.then])
        refine bodyPost_ret (results_c2 rfl _ _ _ _ rfl _ (run_loadVar_row _ _ _ _ _ _ _ (blk_set (blk_set B3.out 0 (.int .i64 0)) 1 (.int .i64 0)) Tryd.underlying28 rfl (by kernel_rfl))) rfl ?_
        exact ⟨by first | (rw [he.out]; done) | (rw [he.out]; rfl) | (simp [he.out]; done), (hz1.out.trans hc3.out (fun _ _ h => h)).trans (Chg.setCell (Chg.setCell (Chg.refl (fun k => k = w.heap.size + 1) _) (p := ⟨w.heap.size + 1, 0, none⟩) (fun _ => rfl) (.int .i64 0)) (p := ⟨w.heap.size + 1, 1, none⟩) (fun _ => rfl) (.int .i64 0)) (fun k hk h => by omega)⟩
      have h0' : ((p.funcs.length : Int) == 0) = false := by simpa using h0
      by_cases h1 : 128 < p.funcs.length
      · have he : Aside0 (checkP chkP p = ((128, 0), 5)) := ⟨by rw [hE.out, if_neg h0, if_pos h1]⟩
        have h1' : (128 : Int) < p.funcs.length := by omega
        clear h0 h1
        go_wp2_with (go_at_call 24; go_must (refine (ref_where _ _ _).mono ?_); go_must (rintro e w3 ⟨rfl, hc3⟩); go_must (have B3 := hc3.blk B2.out (fun h => h)); go_must (have t0 := blk_cell B3 0); go_must (have t1 := blk_cell B3 1); go_must (have u0 := blk_frozen B3 0); go_must (have u1 := blk_frozen B3 1); go_must (replace B3 := Aside0.mk B3); go_must (replace hc3 := Aside0.mk hc3))
        (try simp only [Exit.inBlock, Exit.then])
        refine bodyPost_ret (results_c2 rfl _ _ _ _ rfl _ (run_loadVar_row _ _ _ _ _ _ _ (blk_set (blk_set B3.out 0 (.int .i64 128)) 1 (.int .i64 0)) Tryd.underlying28 rfl (by kernel_rfl))) rfl ?_
        exact ⟨by first | (rw [he.out]; done) | (rw [he.out]; rfl) | (simp [he.out]; done), (hz1.out.trans hc3.out (fun _ _ h => h)).trans (Chg.setCell (Chg.setCell (Chg.refl (fun k => k = w.heap.size + 1) _) (p := ⟨w.heap.size + 1, 0, none⟩) (fun _ => rfl) (.int .i64 128)) (p := ⟨w.heap.size + 1, 1, none⟩) (fun _ => rfl) (.int .i64 0)) (fun k hk h => by omega)⟩
      have h1' : ¬ (128 : Int) < p.funcs.length := by omega
      replace hE : Aside0 (checkP chkP p = funcsP chkP p 0 p.funcs) := ⟨by rw [hE.out, if_neg h0, if_neg h1]⟩
      clear h0 h1
      go_wp2
      obtain ⟨wo, hwo⟩ : ∃ wo : World, wo = wr := ⟨wr, rfl⟩
      subst hwo
      clear p0 p1 h0' h1' hi1
      go_loopw [6, 7, 8] (fun i6 _ _ wr => ∃ i : Nat, i6 = .int .i64 i ∧ i ≤ p.funcs.length ∧ Aside0 (∀ (m : Nat) (f : QF), m < i → p.funcs[m]? = some f → (functionP chkP p m f).2 = 0) ∧ Aside0 (Chg (fun _ => False) wo wr)) (fun i6 _ _ _ => p.funcs.length - (intOf i6).toNat)
      case atStart => exact ⟨0, rfl, by omega, ⟨fun m x hm => by omega⟩, ⟨Chg.refl _ _⟩⟩
      case round =>
        obtain ⟨i, rfl, hi, hN, hCh2⟩ := hrel
        have hz2 : Aside0 (Chg (fun _ => False) w wr) := ⟨hz1.out.trans hCh2.out (fun _ _ h => h)⟩
        replace B1 := Aside0.mk (hCh2.out.blk B1.out (fun h => h))
        replace B2 := Aside0.mk (hCh2.out.blk B2.out (fun h => h))
        have p0 : wr.cell? ⟨w.heap.size, 0, none⟩ = some (.slice cA p.consts.length cc) := blk_cell B1.out 0
        have p1 : wr.cell? ⟨w.heap.size, 1, none⟩ = some (.slice fA p.funcs.length fc) := blk_cell B1.out 1
        by_cases hlt : i < p.funcs.length
        · have hi0 : (0 : Int) ≤ i := by omega
          have hi1 : (i : Int) < p.funcs.length := by omega
          obtain ⟨f, hfx⟩ : ∃ f, p.funcs[i]? = some f := ⟨_, List.getElem?_eq_getElem hlt⟩
          have hfA := Aside0.mk hfx
          obtain ⟨s1, s2, s3⟩ := hS.out.fs f (List.mem_of_getElem? hfx)
          have hcall : Aside0 (Calls Tryd.prog 26 #[.agg #[.slice cA p.consts.length cc, .slice fA p.funcs.length fc], .int .i64 i] wr fun e w' => e = .returned (.tuple #[.int .i64 (functionP chkP p i f).1, .int .i64 (functionP chkP p i f).2]) ∧ Chg (fun _ => False) wr w') := ⟨ref_function wr cA fA cc fc p rs i f (hVA.out.below (hz2.out.below (fun _ _ h => h))) hfx hn2 s1 s2 s3⟩
          have hq9 : Aside0 (∃ z, functionP chkP p i f = z) := ⟨_, rfl⟩
          clear hfx
          rcases hq : functionP chkP p i f with ⟨z1, z2⟩
          have hqA := Aside0.mk hq
          rw [hq] at hcall
          clear hq hq9
          by_cases hb : z2 = 0
          · subst hb
            have hN2 : Aside0 (∀ (m : Nat) (f : QF), m < i + 1 → p.funcs[m]? = some f → (functionP chkP p m f).2 = 0) := ⟨fun m x hm hx => by
              rcases Nat.lt_or_ge m i with h1 | h1
              · exact hN.out m x h1 hx
              · obtain rfl : m = i := by omega
                rw [hfA.out] at hx
                injection hx with hx
                rw [← hx, hqA.out]⟩
            clear hqA
            go_wp2_with (go_at_call 26; go_must (refine (hcall.out).mono ?_); go_must (rintro e w2 ⟨rfl, hc2⟩); go_must (replace hc2 := Aside0.mk hc2))
            go_roundw
            case measure => first | (simp [intOf]; done) | (simp [intOf]; omega)
            case rel => exact ⟨i + 1, by go_num, by omega, hN2, ⟨hCh2.out.trans hc2.out (fun _ _ h => h)⟩⟩
          · have he : Aside0 (checkP chkP p = (((i : Int), z1), z2)) := ⟨by
              have h1 := funcs_at (p := p) (i := 0) hfA.out (fun m y hm hy => by rw [Nat.zero_add]; exact hN.out m y hm hy) (by rw [Nat.zero_add, hqA.out]; exact hb)
              rw [Nat.zero_add, hqA.out] at h1
              rw [hE.out, h1]⟩
            have hb' : (z2 != 0) = true := by simpa using hb
            clear hb hqA
            go_upto_region 18 with (go_at_call 26; go_must (refine (hcall.out).mono ?_); go_must (rintro e w2 ⟨rfl, hc2⟩); go_must (replace hc2 := Aside0.mk hc2))
            (try simp only [Act.put, List.setIfInBounds_toArray, List.set_cons_zero, List.set_cons_succ])
            replace B2 := Aside0.mk (hc2.out.blk B2.out (fun h => h))
            replace hz2 := Aside0.mk (hz2.out.trans hc2.out (fun _ _ h => h))
            go_wp2_with (go_at_call 24; go_must (refine (ref_where _ _ _).mono ?_); go_must (rintro e w3 ⟨rfl, hc3⟩); go_must (have B3 := hc3.blk B2.out (fun h => h)); go_must (have t0 := blk_cell B3 0); go_must (have t1 := blk_cell B3 1); go_must (have u0 := blk_frozen B3 0); go_must (have u1 := blk_frozen B3 1); go_must (replace B3 := Aside0.mk B3); go_must (replace hc3 := Aside0.mk hc3))
            (try simp only [Exit.inBlock, Exit.then])
            refine bodyPost_ret (results_c2 rfl _ _ _ _ rfl _ (run_loadVar_row _ _ _ _ _ _ _ (blk_set (blk_set B3.out 0 (.int .i64 (i : Int))) 1 (.int .i64 z1)) Tryd.underlying28 rfl (by kernel_rfl))) rfl ?_
            exact ⟨by first | (rw [he.out]; done) | (rw [he.out]; rfl) | (simp [he.out]; done), (hz2.out.trans hc3.out (fun _ _ h => h)).trans (Chg.setCell (Chg.setCell (Chg.refl (fun k => k = w.heap.size + 1) _) (p := ⟨w.heap.size + 1, 0, none⟩) (fun _ => rfl) (.int .i64 (i : Int))) (p := ⟨w.heap.size + 1, 1, none⟩) (fun _ => rfl) (.int .i64 z1)) (fun k hk h => by omega)⟩
        · obtain rfl : i = p.funcs.length := by omega
          have hi1 : ¬ ((p.funcs.length : Int) < p.funcs.length) := by omega
          have he : Aside0 (checkP chkP p = ((0, 0), 0)) := ⟨by rw [hE.out, funcs_none (fun m x hx => by rw [Nat.zero_add]; exact hN.out m x (List.getElem?_eq_some_iff.1 hx).1 hx)]⟩
          go_wp2_with (go_at_call 24; go_must (refine (ref_where _ _ _).mono ?_); go_must (rintro e w3 ⟨rfl, hc3⟩); go_must (have B3 := hc3.blk B2.out (fun h => h)); go_must (have t0 := blk_cell B3 0); go_must (have t1 := blk_cell B3 1); go_must (have u0 := blk_frozen B3 0); go_must (have u1 := blk_frozen B3 1); go_must (replace B3 := Aside0.mk B3); go_must (replace hc3 := Aside0.mk hc3))
          (try simp only [Exit.inBlock, Exit.then])
          refine bodyPost_ret (results_c2 rfl _ _ _ _ rfl _ (run_loadVar_row _ _ _ _ _ _ _ (blk_set (blk_set B3.out 0 (.int .i64 0)) 1 (.int .i64 0)) Tryd.underlying28 rfl (by kernel_rfl))) rfl ?_
          exact ⟨by first | (rw [he.out]; done) | (rw [he.out]; rfl) | (simp [he.out]; done), (hz2.out.trans hc3.out (fun _ _ h => h)).trans (Chg.setCell (Chg.setCell (Chg.refl (fun k => k = w.heap.size + 1) _) (p := ⟨w.heap.size + 1, 0, none⟩) (fun _ => rfl) (.int .i64 0)) (p := ⟨w.heap.size + 1, 1, none⟩) (fun _ => rfl) (.int .i64 0)) (fun k hk h => by omega)⟩
end Go.Proofs.YtgaackedappmgaaDoor.K
