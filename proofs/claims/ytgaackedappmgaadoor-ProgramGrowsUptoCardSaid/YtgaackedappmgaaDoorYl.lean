import Derived.Test.YtgaackedappmgaaDoorGy
import Derived.Test.YtgaackedappmgaaDoorYk
import Derived.IntWalk
import Derived.BigQuiet
import Derived.Maps.OwnSet
namespace Go.Proofs.YtgaackedappmgaaDoor.K
open Go.Maps Go.RowKit Go.Proofs.YtgaackedappmgaaDoorW.PrintWords Go.Proofs.YtgaackedappmgaaDoorW.PrintLast Go.Proofs.YtgaackedappmgaaDoorW.PrintMore
set_option linter.unusedVariables false
set_option linter.unusedSimpArgs false
set_option maxRecDepth 100000
def constsE (l : List QC) : Int × Int := if 512 < l.length then (512, 5) else match firstBad (constP l) 0 l with
  | some (i, e) => ((i : Int), e)
  | none => (0, 0)
structure CsWf (l : List QC) : Prop where
  len : l.length ≤ 1048576
  each : ∀ c ∈ l, CWf c
theorem wrapU (n : Int) : IntKind.u64.wrap n = n % 18446744073709551616 := by simp [IntKind.wrap, IntKind.bits, IntKind.signed]
theorem u64_wrap_range (n : Int) : 0 ≤ IntKind.u64.wrap n ∧ IntKind.u64.wrap n < 18446744073709551616 := by
  rw [wrapU]
  omega
theorem canon_nan (n : Int) : (canonU (IntKind.u64.wrap n) != IntKind.u64.wrap n) = nanB n := by
  have h := u64_wrap_range n
  unfold nanB canonU
  generalize IntKind.u64.wrap n = x at h
  have e : IntKind.u64.wrap (x * 2) = 2 * (x % 9223372036854775808) := by
    rw [wrapU]
    omega
  rw [e]
  by_cases c : 9218868437227405312 < x % 9223372036854775808
  · rw [if_pos c, decide_eq_true (by omega), Bool.true_and]
    by_cases d : x = 9221120237041090560
    · subst d; rfl
    · have d2 : ¬ (9221120237041090560 : Int) = x := fun e => d e.symm
      rw [show ((9221120237041090560 : Int) != x) = true from bne_iff_ne.2 d2, show (x != (9221120237041090560 : Int)) = true from bne_iff_ne.2 d]
  · rw [if_neg c, decide_eq_false (by omega), Bool.false_and]
    simp
set_option maxHeartbeats 4000000
theorem prog_checkConsts (w : World) (A : Option Addr) (cap : Nat) (l : List QC) (hC : Kd.C kQC w A l.length l) (hl : CsWf l) :
    Calls Tryd.prog 42 #[.slice A l.length cap] w (FnPost w (constsE l)) := by
  have hCA := Aside0.mk hC
  have hL := Aside0.mk hl
  have hll := hl.len
  clear hC hl
  have hmm := @run_makeMap Tryd.prog
  by_cases hbig : 512 < l.length
  · have he : Aside0 (constsE l = (512, 5)) := ⟨by unfold constsE; rw [if_pos hbig]⟩
    have hb1 : (512 : Int) < l.length := by omega
    clear hbig
    go_enter Tryd.func42, Tryd.ntmps42
    go_wp2_with ((go_at_call 43; go_must (refine (prog_at _ _ _ (by decide)).mono ?_); go_must (rintro e w5 ⟨rfl, hw5⟩); go_must (subst w5)))
    go_ret
    exact ⟨cg, Or.inr ⟨by rw [he.out]; decide, _, rfl, by rw [he.out]; exact heap_alloc_new _ _⟩⟩
  have hb1 : ¬ (512 : Int) < l.length := by omega
  have hE : Aside0 (constsE l = match firstBad (constP l) 0 l with | some (i, e) => ((i : Int), e) | none => (0, 0)) := ⟨by unfold constsE; rw [if_neg hbig]⟩
  clear hbig
  go_enter Tryd.func42, Tryd.ntmps42
  go_upto_region 4 with (fail)
  (try simp only [Act.put, List.setIfInBounds_toArray, List.set_cons_zero, List.set_cons_succ])
  generalize hW : World.alloc w _ = W0
  have hM : Aside0 (MapK W0 39 w.heap.size []) := ⟨MapK.made (by rw [← hW]; exact heap_alloc_new w _)⟩
  have hz0 : Aside0 (Chg (fun _ => False) w W0) := ⟨by rw [← hW]; exact cg⟩
  clear hW hmm
  go_wp2
  go_loopw [15] (fun i15 wr => ∃ i : Nat, i15 = .int .i64 i ∧ i ≤ l.length ∧ Aside0 (∀ (m : Nat) (c : QC), m < i → l[m]? = some c → constP l m c = 0) ∧ Aside0 (MapK wr 39 w.heap.size ((l.take i).map litC)) ∧ Aside0 (Chg (fun _ => False) w wr)) (fun i15 _ => l.length - (intOf i15).toNat)
  case atStart => exact ⟨0, rfl, by omega, ⟨fun m x hm => by omega⟩, hM, hz0⟩
  case round =>
    obtain ⟨i, rfl, hi, hN, hM, hz1⟩ := hrel
    by_cases hlt : i < l.length
    · have hi0 : (0 : Int) ≤ i := by omega
      have hi1 : (i : Int) < l.length := by omega
      obtain ⟨ad, kd, n, t, e1, e2, x0, x1, x2⟩ := kQC_at2 (C_chg hCA.out (hz1.out.below (fun _ _ h => h))) i hlt
      subst e1
      have hbd : Aside0 (∀ e, e ≠ 0 → constP l i ⟨kd, n, t⟩ = e → constsE l = ((i : Int), e)) := ⟨fun e h0 h => by
        have h1 := firstBad_at (f := constP l) (i := 0) e2 (fun m y hm hy => by rw [Nat.zero_add]; exact hN.out m y hm hy) (by rw [Nat.zero_add, h]; exact h0)
        rw [Nat.zero_add, h] at h1
        rw [hE.out, h1]⟩
      have hN2 : Aside0 (constP l i ⟨kd, n, t⟩ = 0 → ∀ (m : Nat) (c : QC), m < i + 1 → l[m]? = some c → constP l m c = 0) := ⟨fun h m x hm hx => by
        rcases Nat.lt_or_ge m i with h1 | h1
        · exact hN.out m x h1 hx
        · obtain rfl : m = i := by omega
          rw [e2] at hx
          injection hx with hx
          rw [← hx, h]⟩
      have hwf : Aside0 (CWf ⟨kd, n, t⟩) := ⟨hL.out.each _ (List.mem_of_getElem? e2)⟩
      have htk : Aside0 ((l.take (i + 1)).map litC = (l.take i).map litC ++ [litC ⟨kd, n, t⟩]) := ⟨by rw [List.take_add_one, e2]; simp⟩
      have his : Aside0 ((l.take i).any (fun d => sameC d ⟨kd, n, t⟩) = true ↔ litC ⟨kd, n, t⟩ ∈ (l.take i).map litC) := ⟨litC_mem (fun d hd => hL.out.each d (List.mem_of_mem_take hd)) hwf.out⟩
      have hcP : Aside0 (constP l i ⟨kd, n, t⟩ = if baseC ⟨kd, n, t⟩ ≠ 0 then baseC ⟨kd, n, t⟩ else if (l.take i).any (fun d => sameC d ⟨kd, n, t⟩) then 15 else 0) := ⟨rfl⟩
      have hmax : Aside0 (((l.take i).map litC).length < maxLen) := ⟨by rw [List.length_map, List.length_take]; unfold maxLen; omega⟩
      have hwi : Aside0 ((Lit.int .i64 (i : Int)).wf = true) := ⟨WalkArith.wf_i64 (by omega)⟩
      generalize hdup : (l.take i).any (fun d => sameC d ⟨kd, n, t⟩) = dup at his hcP
      clear e2 hdup
      go_upto_region 7 with (fail)
      (try simp only [Act.put, List.setIfInBounds_toArray, List.set_cons_zero, List.set_cons_succ])
      generalize hW : World.alloc wr _ = W1
      have B1 : Aside0 (W1.heap[wr.heap.size]? = some (.cells #[.int .i64 kd, .int .i64 n, .string t] 39)) := ⟨by rw [← hW]; exact heap_alloc_new wr _⟩
      have hz9 : Aside0 (Chg (fun _ => False) wr W1) := ⟨by rw [← hW]; exact cg⟩
      clear hW
      replace hM := Aside0.mk (hM.out.chg hz9.out (fun h => h))
      replace hz1 := Aside0.mk (hz1.out.trans hz9.out (fun _ _ h => h))
      clear x0 x1 x2 hz9
      have c0 : W1.cell? ⟨wr.heap.size, 0, none⟩ = some (.int .i64 kd) := blk_cell B1.out 0
      have c1 : W1.cell? ⟨wr.heap.size, 1, none⟩ = some (.int .i64 n) := blk_cell B1.out 1
      have c2 : W1.cell? ⟨wr.heap.size, 2, none⟩ = some (.string t) := blk_cell B1.out 2
      by_cases h3 : kd = 3
      · subst h3
        by_cases ht : t = ByteArray.empty
        · subst ht
          have hu := u64_wrap_range n
          have hu0 : Aside0 (0 ≤ IntKind.u64.wrap n) := ⟨hu.1⟩
          have hu1 : Aside0 (IntKind.u64.wrap n < 18446744073709551616) := ⟨hu.2⟩
          have hcan : Aside0 ((canonU (IntKind.u64.wrap n) != IntKind.u64.wrap n) = nanB n) := ⟨canon_nan n⟩
          clear hu
          clear hE
          cases hnb : nanB n with
          | true =>
            have hb : baseC ⟨3, n, ByteArray.empty⟩ = 4 := by simp [baseC, hnb]
            rw [hnb] at hcan
            have hcb := hcan.out
            go_upto_region 10 with (fail)
            (try simp only [Act.put, List.setIfInBounds_toArray, List.set_cons_zero, List.set_cons_succ])
            go_quiet (first | (go_at_call 53; exact Calls.quiet_of_same (prog_Canon _ _ hu0.out hu1.out)))
            have he : Aside0 (constsE l = ((i : Int), 4)) := ⟨hbd.out 4 (by decide) (by rw [hcP.out]; rw [if_pos (by rw [hb]; decide), hb])⟩
            clear hN2 hbd
            go_wp2_with ((go_at_call 43; go_must (refine (prog_at _ _ _ (by decide)).mono ?_); go_must (rintro e w5 ⟨rfl, hw5⟩); go_must (subst w5)))
            go_ret
            exact ⟨cg, Or.inr ⟨by rw [he.out]; exact (by decide : (4 : Int) ≠ 0), _, rfl, by rw [he.out]; exact heap_alloc_new _ _⟩⟩
          | false =>
            have hb : baseC ⟨3, n, ByteArray.empty⟩ = 0 := by simp [baseC, hnb]
            rw [hnb] at hcan
            have hcb := hcan.out
            go_upto_region 10 with (fail)
            (try simp only [Act.put, List.setIfInBounds_toArray, List.set_cons_zero, List.set_cons_succ])
            go_quiet (first | (go_at_call 53; exact Calls.quiet_of_same (prog_Canon _ _ hu0.out hu1.out)))
            cases dup with
            | true =>
              have he : Aside0 (constsE l = ((i : Int), 15)) := ⟨hbd.out 15 (by decide) (by rw [hcP.out]; rw [if_neg (by rw [hb]; decide), if_pos rfl])⟩
              clear hN2 hbd
              go_wp2_with (first | (at_lookup; go_must (refine wpL_look _ rfl _ _ 110 rfl 39 keyedC Tryd.underlying110 _ _ rfl hM.out _ _ rfl (keyC hwf.out) true his.out ?_); go_must (intro c9)) | (go_at_call 43; go_must (refine (prog_at _ _ _ (by decide)).mono ?_); go_must (rintro e w5 ⟨rfl, hw5⟩); go_must (subst w5)))
              go_ret
              exact ⟨cg, Or.inr ⟨by rw [he.out]; exact (by decide : (15 : Int) ≠ 0), _, rfl, by rw [he.out]; exact heap_alloc_new _ _⟩⟩
            | false =>
              replace hN2 := Aside0.mk (hN2.out (by rw [hcP.out, if_neg (by rw [hb]; decide)]; rfl))
              go_wp2_with (first | (at_lookup; go_must (refine wpL_look _ rfl _ _ 110 rfl 39 keyedC Tryd.underlying110 _ _ rfl hM.out _ _ rfl (keyC hwf.out) false his.out ?_); go_must (intro c9)) | (at_mapUpdate; go_must (refine wpL_upd _ rfl _ _ _ 110 rfl 39 keyedC Tryd.underlying110 _ _ rfl hM.out hmax.out _ _ _ rfl rfl (keyC hwf.out) hwi.out ?_); go_must (intro w6 hM6 hgr6); go_must (replace hM6 := Aside0.mk hM6); go_must (replace hgr6 := Aside0.mk (chg_upd hgr6))))
              go_roundw
              case measure => first | (simp [intOf]; done) | (simp [intOf]; omega)
              case rel => exact ⟨i + 1, by go_num, by omega, hN2, ⟨by rw [htk.out]; exact hM6.out⟩, ⟨by refine Chg.trans ?_ hgr6.out (fun b hb h => absurd hb (by rw [h]; exact Nat.lt_irrefl _)); exact cg⟩⟩
        · have hte : t.toList.isEmpty = false := by
            cases h : t.toList with
            | nil => exact absurd (ByteArray.ext (Array.toList_inj.1 (by rw [← ByteArray.toList_eq, h]; rfl))) ht
            | cons a l => rfl
          have hb : baseC ⟨3, n, t⟩ = 4 := by simp [baseC, ht]
          clear ht hE
          go_upto_region 10 with (fail)
          (try simp only [Act.put, List.setIfInBounds_toArray, List.set_cons_zero, List.set_cons_succ])
          go_quiet (fail)
          have he : Aside0 (constsE l = ((i : Int), 4)) := ⟨hbd.out 4 (by decide) (by rw [hcP.out]; rw [if_pos (by rw [hb]; decide), hb])⟩
          clear hN2 hbd
          go_wp2_with ((go_at_call 43; go_must (refine (prog_at _ _ _ (by decide)).mono ?_); go_must (rintro e w5 ⟨rfl, hw5⟩); go_must (subst w5)))
          go_ret
          exact ⟨cg, Or.inr ⟨by rw [he.out]; exact (by decide : (4 : Int) ≠ 0), _, rfl, by rw [he.out]; exact heap_alloc_new _ _⟩⟩
      have d3 : (kd == 3) = false := by simpa using h3
      by_cases h4 : kd = 4
      · subst h4
        by_cases hn0 : n = 0
        · subst hn0
          by_cases hsz : 4096 < t.size
          · have hb : baseC ⟨4, 0, t⟩ = 5 := by simp [baseC, hsz]
            have hs1 : (4096 : Int) < t.size := by omega
            clear hE hsz
            have he : Aside0 (constsE l = ((i : Int), 5)) := ⟨hbd.out 5 (by decide) (by rw [hcP.out]; rw [if_pos (by rw [hb]; decide), hb])⟩
            clear hN2 hbd
            go_wp2_with ((go_at_call 43; go_must (refine (prog_at _ _ _ (by decide)).mono ?_); go_must (rintro e w5 ⟨rfl, hw5⟩); go_must (subst w5)))
            go_ret
            exact ⟨cg, Or.inr ⟨by rw [he.out]; exact (by decide : (5 : Int) ≠ 0), _, rfl, by rw [he.out]; exact heap_alloc_new _ _⟩⟩
          · have hb : baseC ⟨4, 0, t⟩ = 0 := by simp [baseC, hsz]
            have hs1 : ¬ (4096 : Int) < t.size := by omega
            clear hE hsz
            cases dup with
            | true =>
              have he : Aside0 (constsE l = ((i : Int), 15)) := ⟨hbd.out 15 (by decide) (by rw [hcP.out]; rw [if_neg (by rw [hb]; decide), if_pos rfl])⟩
              clear hN2 hbd
              go_wp2_with (first | (at_lookup; go_must (refine wpL_look _ rfl _ _ 110 rfl 39 keyedC Tryd.underlying110 _ _ rfl hM.out _ _ rfl (keyC hwf.out) true his.out ?_); go_must (intro c9)) | (go_at_call 43; go_must (refine (prog_at _ _ _ (by decide)).mono ?_); go_must (rintro e w5 ⟨rfl, hw5⟩); go_must (subst w5)))
              go_ret
              exact ⟨cg, Or.inr ⟨by rw [he.out]; exact (by decide : (15 : Int) ≠ 0), _, rfl, by rw [he.out]; exact heap_alloc_new _ _⟩⟩
            | false =>
              replace hN2 := Aside0.mk (hN2.out (by rw [hcP.out, if_neg (by rw [hb]; decide)]; rfl))
              go_wp2_with (first | (at_lookup; go_must (refine wpL_look _ rfl _ _ 110 rfl 39 keyedC Tryd.underlying110 _ _ rfl hM.out _ _ rfl (keyC hwf.out) false his.out ?_); go_must (intro c9)) | (at_mapUpdate; go_must (refine wpL_upd _ rfl _ _ _ 110 rfl 39 keyedC Tryd.underlying110 _ _ rfl hM.out hmax.out _ _ _ rfl rfl (keyC hwf.out) hwi.out ?_); go_must (intro w6 hM6 hgr6); go_must (replace hM6 := Aside0.mk hM6); go_must (replace hgr6 := Aside0.mk (chg_upd hgr6))))
              go_roundw
              case measure => first | (simp [intOf]; done) | (simp [intOf]; omega)
              case rel => exact ⟨i + 1, by go_num, by omega, hN2, ⟨by rw [htk.out]; exact hM6.out⟩, ⟨by refine Chg.trans ?_ hgr6.out (fun b hb h => absurd hb (by rw [h]; exact Nat.lt_irrefl _)); exact cg⟩⟩
        · have hb : baseC ⟨4, n, t⟩ = 4 := by simp [baseC, hn0]
          have hn1 : (n != 0) = true := by simpa using hn0
          clear hE
          have he : Aside0 (constsE l = ((i : Int), 4)) := ⟨hbd.out 4 (by decide) (by rw [hcP.out]; rw [if_pos (by rw [hb]; decide), hb])⟩
          clear hN2 hbd
          go_wp2_with ((go_at_call 43; go_must (refine (prog_at _ _ _ (by decide)).mono ?_); go_must (rintro e w5 ⟨rfl, hw5⟩); go_must (subst w5)))
          go_ret
          exact ⟨cg, Or.inr ⟨by rw [he.out]; exact (by decide : (4 : Int) ≠ 0), _, rfl, by rw [he.out]; exact heap_alloc_new _ _⟩⟩
      · have hb : baseC ⟨kd, n, t⟩ = 4 := by simp [baseC, h3, h4]
        have d4 : (kd == 4) = false := by simpa using h4
        clear hE
        have he : Aside0 (constsE l = ((i : Int), 4)) := ⟨hbd.out 4 (by decide) (by rw [hcP.out]; rw [if_pos (by rw [hb]; decide), hb])⟩
        clear hN2 hbd
        go_wp2_with ((go_at_call 43; go_must (refine (prog_at _ _ _ (by decide)).mono ?_); go_must (rintro e w5 ⟨rfl, hw5⟩); go_must (subst w5)))
        go_ret
        exact ⟨cg, Or.inr ⟨by rw [he.out]; exact (by decide : (4 : Int) ≠ 0), _, rfl, by rw [he.out]; exact heap_alloc_new _ _⟩⟩
    · obtain rfl : i = l.length := by omega
      have hi1 : ¬ ((l.length : Int) < l.length) := by omega
      have he : Aside0 (constsE l = (0, 0)) := ⟨by rw [hE.out, firstBad_none (fun m x hx => by rw [Nat.zero_add]; exact hN.out m x (List.getElem?_eq_some_iff.1 hx).1 hx)]⟩
      go_wp2
      go_ret
      exact ⟨hz1.out, Or.inl ⟨by rw [he.out], rfl⟩⟩
end Go.Proofs.YtgaackedappmgaaDoor.K
