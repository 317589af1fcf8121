import Derived.Test.YtgaackedappmgaaDoorGy
import Derived.Test.YtgaackedappmgaaDoorWEqStruct
import Derived.IntWalk
import Derived.BigQuiet
namespace Go.Proofs.YtgaackedappmgaaDoor.K
open Go.RowKit Go.Proofs.YtgaackedappmgaaDoorW.PrintWords Go.Proofs.YtgaackedappmgaaDoorW.PrintLast Go.Proofs.YtgaackedappmgaaDoorW.PrintMore
set_option linter.unusedVariables false
set_option linter.unusedSimpArgs false
set_option maxRecDepth 100000
theorem ba_beqY (a b : ByteArray) : (a.toList == b.toList) = decide (a = b) := by
  rw [ByteArray.toList_eq, ByteArray.toList_eq]
  by_cases h : a = b
  · subst h; simp
  · have h2 : a.data.toList ≠ b.data.toList := fun e => h (ByteArray.ext (Array.toList_inj.1 e))
    rw [decide_eq_false h]
    exact beq_false_of_ne h2
theorem eqAQC (d : Nat) (w : World) (x0 y0 x1 y1 : Int) (s t : ByteArray) :
    (Op.equalIn (d + 2) 39 (.agg #[.int .i64 x0, .int .i64 x1, .string s]) (.agg #[.int .i64 y0, .int .i64 y1, .string t])).run Tryd.prog w = .ok (x0 == y0 && (x1 == y1 && (s.toList == t.toList))) w := by
  refine eqA_of Tryd.underlying39 (by kernel_rfl) ?_
  refine eqf_cons (by rfl) (by go_simp; rfl) (by go_simp; rfl) (by go_simp) ?_
  refine eqf_cons (by rfl) (by go_simp; rfl) (by go_simp; rfl) (by go_simp) ?_
  exact eqf_last (by rfl) (by go_simp; rfl) (by go_simp; rfl) (by go_simp)
attribute [local go_sem high] eqAQC
theorem kQC_at2 {w : World} {A : Option Addr} {n : Nat} {l : List QC} (h : Kd.C kQC w A n l) (i : Nat) (h1 : i < n) : ∃ ad kd1 n1 t1, A = some ad ∧ l[i]? = some ⟨kd1, n1, t1⟩ ∧ w.cell? (ad.add (i * 3)) = some (.int .i64 kd1) ∧
    w.cell? ⟨(ad.add (i * 3)).block, (ad.add (i * 3)).off + 1, none⟩ = some (.int .i64 n1) ∧ w.cell? ⟨(ad.add (i * 3)).block, (ad.add (i * 3)).off + 2, none⟩ = some (.string t1) := by
  obtain ⟨e1, e2, e3⟩ := h
  obtain ⟨ad, ea, hc⟩ := e3 (by omega)
  have hi : i < l.length := by omega
  obtain ⟨cs, _, hk, hcell⟩ := hc i _ (List.getElem?_eq_getElem hi)
  rw [kQC_K] at hk
  subst hk
  have g1 := hcell 1 _ rfl
  have g2 := hcell 2 _ rfl
  have e5 : kQC.sz = 3 := rfl
  rw [e5] at g1 g2
  rw [← add_add] at g1 g2
  exact ⟨ad, l[i].kind, l[i].n, l[i].text, ea, List.getElem?_eq_getElem hi, hcell 0 _ rfl, g1, g2⟩
set_option maxHeartbeats 4000000
theorem ref_constant (w : World) (A : Option Addr) (cap : Nat) (l : List QC) (i : Nat) (c : QC) (hC : Kd.C kQC w A l.length l) (hl : l.length ≤ 1048576) (hc : l[i]? = some c) :
    Calls Tryd.prog 25 #[.slice A l.length cap, .int .i64 i] w fun e w' => e = .returned (.int .i64 (constP l i c)) ∧ Chg (fun _ => False) w w' := by
  obtain ⟨hi, _⟩ := List.getElem?_eq_some_iff.1 hc
  obtain ⟨ad, kd, n, t, e1, e2, x0, x1, x2⟩ := kQC_at2 hC i hi
  rw [hc] at e2
  injection e2 with e2
  subst e2
  subst e1
  have hi0 : (0 : Int) ≤ i := by omega
  have hi1 : (i : Int) < l.length := by omega
  have hCA := Aside0.mk hC
  clear hC hc
  go_enter Tryd.func25, Tryd.ntmps25
  go_upto_region 2 with (fail)
  (try simp only [Act.put, List.setIfInBounds_toArray, List.set_cons_zero, List.set_cons_succ])
  generalize hW : World.alloc w _ = W0
  have B1 : Aside0 (W0.heap[w.heap.size]? = some (.cells #[.int .i64 kd, .int .i64 n, .string t] 39)) := ⟨by rw [← hW]; exact heap_alloc_new w _⟩
  have hz0 : Aside0 (Chg (fun _ => False) w W0) := ⟨by rw [← hW]; exact cg⟩
  clear hW
  have p0 : W0.cell? ⟨w.heap.size, 0, none⟩ = some (.int .i64 kd) := blk_cell B1.out 0
  have p1 : W0.cell? ⟨w.heap.size, 1, none⟩ = some (.int .i64 n) := blk_cell B1.out 1
  have p2 : W0.cell? ⟨w.heap.size, 2, none⟩ = some (.string t) := blk_cell B1.out 2
  clear x0 x1 x2
  by_cases h3 : kd = 3
  · subst h3
    by_cases ht : t = ByteArray.empty
    · subst ht
      cases hn : nanB n with
      | true =>
        have hb : baseC ⟨3, n, ByteArray.empty⟩ = 4 := by simp [baseC, hn]
        have hcall : Aside0 (∀ W, Calls Tryd.prog 35 #[.int .i64 n] W fun e w' => e = .returned (.bool true) ∧ w' = W) := ⟨fun W => by rw [← hn]; exact ref_nan W n⟩
        have he : Aside0 (constP l i ⟨3, n, ByteArray.empty⟩ = 4) := ⟨by unfold constP; rw [hb]; rfl⟩
        clear hn hb
        go_wp2_with (go_at_call 35; go_must (refine (hcall.out _).mono ?_); go_must (rintro e w1 ⟨rfl, hw1⟩); go_must (subst w1))
        go_ret
        exact ⟨by rw [he.out]; rfl, hz0.out⟩
      | false =>
        have hb : Aside0 (baseC ⟨3, n, ByteArray.empty⟩ = 0) := ⟨by simp [baseC, hn]⟩
        have hcall : Aside0 (∀ W, Calls Tryd.prog 35 #[.int .i64 n] W fun e w' => e = .returned (.bool false) ∧ w' = W) := ⟨fun W => by rw [← hn]; exact ref_nan W n⟩
        clear hn
        have hlen : ((ByteArray.empty.size : Nat) : Int) ≤ 4096 := by decide
        go_wp2_with (go_at_call 35; go_must (refine (hcall.out _).mono ?_); go_must (rintro e w1 ⟨rfl, hw1⟩); go_must (subst w1))
        clear p0 p1 p2 hcall hlen
        go_loopw [6] (fun i6 wr => ∃ k : Nat, i6 = .int .i64 k ∧ k ≤ i ∧ Aside0 ((l.take k).any (fun d => sameC d ⟨3, n, ByteArray.empty⟩) = false) ∧ Aside0 (Chg (fun _ => False) W0 wr)) (fun i6 _ => i - (intOf i6).toNat)
        case atStart => exact ⟨0, rfl, by omega, ⟨by simp⟩, ⟨Chg.refl _ _⟩⟩
        case round =>
          obtain ⟨k, rfl, hk, hN, hCh⟩ := hrel
          have hB := hCh.out.blk B1.out (fun h => h)
          have p0 : wr.cell? ⟨w.heap.size, 0, none⟩ = some (.int .i64 3) := blk_cell hB 0
          have p1 : wr.cell? ⟨w.heap.size, 1, none⟩ = some (.int .i64 n) := blk_cell hB 1
          have p2 : wr.cell? ⟨w.heap.size, 2, none⟩ = some (.string ByteArray.empty) := blk_cell hB 2
          clear hB
          by_cases hki : k < i
          · have hk0 : (0 : Int) ≤ k := by omega
            have hk1 : (k : Int) < i := by omega
            have hk2 : (k : Int) < l.length := by omega
            obtain ⟨_, kd2, n2, t2, e1, e2, y0, y1, y2⟩ := kQC_at2 (C_chg hCA.out ((hz0.out.trans hCh.out (fun _ _ h => h)).below (fun _ _ h => h))) k (by omega)
            injection e1 with e1
            subst e1
            have e2A := Aside0.mk e2
            clear e2
            have hst : Aside0 ((l.take (k + 1)).any (fun d => sameC d ⟨3, n, ByteArray.empty⟩) = ((l.take k).any (fun d => sameC d ⟨3, n, ByteArray.empty⟩) || sameC ⟨kd2, n2, t2⟩ ⟨3, n, ByteArray.empty⟩)) := ⟨by rw [List.take_add_one, e2A.out]; simp⟩
            by_cases hd : kd2 = 3
            · subst kd2
              by_cases hd : n2 = n
              · subst n2
                by_cases hd : t2 = ByteArray.empty
                · subst t2
                  have he : Aside0 (constP l i ⟨3, n, ByteArray.empty⟩ = 15) := ⟨by
                    unfold constP
                    rw [hb.out, if_neg (by decide), if_pos]
                    refine List.any_eq_true.2 ⟨⟨3, n, ByteArray.empty⟩, List.mem_of_getElem? (i := k) ?_, sameC_iff.2 rfl⟩
                    rw [List.getElem?_take_of_lt hki]
                    exact e2A.out⟩
                  go_upto_region 13 with (fail)
                  (try simp only [Act.put, List.setIfInBounds_toArray, List.set_cons_zero, List.set_cons_succ])
                  go_quiet (fail)
                  go_wp2
                  go_ret
                  exact ⟨by rw [he.out]; rfl, hz0.out.trans (cg : Chg (fun _ => False) W0 _) (fun _ _ h => h)⟩
                · skip
                  have hsA : Aside0 (sameC ⟨3, n, t2⟩ ⟨3, n, ByteArray.empty⟩ = false) := ⟨by simp [sameC, hd]⟩
                  have hf0 : ¬ t2.toList = ByteArray.empty.toList := fun e => hd (ByteArray.ext (Array.toList_inj.1 (by rw [← ByteArray.toList_eq, ← ByteArray.toList_eq]; exact e)))
                  have hf : t2.toList.isEmpty = false := by cases h : t2.toList with | nil => exact absurd (h.trans (by rw [ByteArray.toList_eq]; rfl)) hf0 | cons a l => rfl
                  clear hf0
                  clear hd
                  go_upto_region 13 with (fail)
                  (try simp only [Act.put, List.setIfInBounds_toArray, List.set_cons_zero, List.set_cons_succ])
                  go_quiet (fail)
                  go_wp2
                  go_roundw
                  case measure => first | (simp [intOf]; done) | (simp [intOf]; omega)
                  case rel => exact ⟨k + 1, by go_num, by omega, ⟨by rw [hst.out, hN.out, hsA.out]; rfl⟩, ⟨(cg : Chg (fun _ => False) W0 _)⟩⟩
              · skip
                have hsA : Aside0 (sameC ⟨3, n2, t2⟩ ⟨3, n, ByteArray.empty⟩ = false) := ⟨by simp [sameC, hd]⟩
                have hf : (n2 == n) = false := by simpa using hd
                clear hd
                go_upto_region 13 with (fail)
                (try simp only [Act.put, List.setIfInBounds_toArray, List.set_cons_zero, List.set_cons_succ])
                go_quiet (fail)
                go_wp2
                go_roundw
                case measure => first | (simp [intOf]; done) | (simp [intOf]; omega)
                case rel => exact ⟨k + 1, by go_num, by omega, ⟨by rw [hst.out, hN.out, hsA.out]; rfl⟩, ⟨(cg : Chg (fun _ => False) W0 _)⟩⟩
            · skip
              have hsA : Aside0 (sameC ⟨kd2, n2, t2⟩ ⟨3, n, ByteArray.empty⟩ = false) := ⟨by simp [sameC, hd]⟩
              have hf : (kd2 == 3) = false := by simpa using hd
              clear hd
              go_upto_region 13 with (fail)
              (try simp only [Act.put, List.setIfInBounds_toArray, List.set_cons_zero, List.set_cons_succ])
              go_quiet (fail)
              go_wp2
              go_roundw
              case measure => first | (simp [intOf]; done) | (simp [intOf]; omega)
              case rel => exact ⟨k + 1, by go_num, by omega, ⟨by rw [hst.out, hN.out, hsA.out]; rfl⟩, ⟨(cg : Chg (fun _ => False) W0 _)⟩⟩
          · obtain rfl : k = i := by omega
            have he : Aside0 (constP l k ⟨3, n, ByteArray.empty⟩ = 0) := ⟨by unfold constP; rw [hb.out, if_neg (by decide), hN.out]; rfl⟩
            go_wp2
            go_ret
            exact ⟨by rw [he.out]; rfl, hz0.out.trans hCh.out (fun _ _ h => h)⟩
    · have hte : ¬ t.toList = [] := fun e => ht (ByteArray.ext (Array.toList_inj.1 (by rw [← ByteArray.toList_eq, e]; rfl)))
      have hb : baseC ⟨3, n, t⟩ = 4 := by simp [baseC, ht]
      have he : Aside0 (constP l i ⟨3, n, t⟩ = 4) := ⟨by unfold constP; rw [hb]; rfl⟩
      clear hb
      go_wp2
      go_ret
      exact ⟨by rw [he.out]; rfl, hz0.out⟩
  · by_cases h4 : kd = 4
    · subst h4
      by_cases hn0 : n = 0
      · subst hn0
        by_cases hsz : 4096 < t.size
        · have he : Aside0 (constP l i ⟨4, 0, t⟩ = 5) := ⟨by unfold constP; rw [show baseC ⟨4, 0, t⟩ = 5 by simp [baseC, hsz]]; rfl⟩
          have hszi : (4096 : Int) < t.size := by omega
          go_wp2
          go_ret
          exact ⟨by rw [he.out]; rfl, hz0.out⟩
        · have hb : Aside0 (baseC ⟨4, 0, t⟩ = 0) := ⟨by simp [baseC, hsz]⟩
          have hszi : ¬ (4096 : Int) < t.size := by omega
          go_wp2
          clear p0 p1 p2
          go_loopw [6] (fun i6 wr => ∃ k : Nat, i6 = .int .i64 k ∧ k ≤ i ∧ Aside0 ((l.take k).any (fun d => sameC d ⟨4, 0, t⟩) = false) ∧ Aside0 (Chg (fun _ => False) W0 wr)) (fun i6 _ => i - (intOf i6).toNat)
          case atStart => exact ⟨0, rfl, by omega, ⟨by simp⟩, ⟨Chg.refl _ _⟩⟩
          case round =>
            obtain ⟨k, rfl, hk, hN, hCh⟩ := hrel
            have hB := hCh.out.blk B1.out (fun h => h)
            have p0 : wr.cell? ⟨w.heap.size, 0, none⟩ = some (.int .i64 4) := blk_cell hB 0
            have p1 : wr.cell? ⟨w.heap.size, 1, none⟩ = some (.int .i64 0) := blk_cell hB 1
            have p2 : wr.cell? ⟨w.heap.size, 2, none⟩ = some (.string t) := blk_cell hB 2
            clear hB
            by_cases hki : k < i
            · have hk0 : (0 : Int) ≤ k := by omega
              have hk1 : (k : Int) < i := by omega
              have hk2 : (k : Int) < l.length := by omega
              obtain ⟨_, kd2, n2, t2, e1, e2, y0, y1, y2⟩ := kQC_at2 (C_chg hCA.out ((hz0.out.trans hCh.out (fun _ _ h => h)).below (fun _ _ h => h))) k (by omega)
              injection e1 with e1
              subst e1
              have e2A := Aside0.mk e2
              clear e2
              have hst : Aside0 ((l.take (k + 1)).any (fun d => sameC d ⟨4, 0, t⟩) = ((l.take k).any (fun d => sameC d ⟨4, 0, t⟩) || sameC ⟨kd2, n2, t2⟩ ⟨4, 0, t⟩)) := ⟨by rw [List.take_add_one, e2A.out]; simp⟩
              by_cases hd : kd2 = 4
              · subst kd2
                by_cases hd : n2 = 0
                · subst n2
                  by_cases hd : t2 = t
                  · subst t2
                    have he : Aside0 (constP l i ⟨4, 0, t⟩ = 15) := ⟨by
                      unfold constP
                      rw [hb.out, if_neg (by decide), if_pos]
                      refine List.any_eq_true.2 ⟨⟨4, 0, t⟩, List.mem_of_getElem? (i := k) ?_, sameC_iff.2 rfl⟩
                      rw [List.getElem?_take_of_lt hki]
                      exact e2A.out⟩
                    go_upto_region 13 with (fail)
                    (try simp only [Act.put, List.setIfInBounds_toArray, List.set_cons_zero, List.set_cons_succ])
                    go_quiet (fail)
                    go_wp2
                    go_ret
                    exact ⟨by rw [he.out]; rfl, hz0.out.trans (cg : Chg (fun _ => False) W0 _) (fun _ _ h => h)⟩
                  · skip
                    have hsA : Aside0 (sameC ⟨4, 0, t2⟩ ⟨4, 0, t⟩ = false) := ⟨by simp [sameC, hd]⟩
                    have hf0 : ¬ t2.toList = t.toList := fun e => hd (ByteArray.ext (Array.toList_inj.1 (by rw [← ByteArray.toList_eq, ← ByteArray.toList_eq]; exact e)))
                    have hf : (t2.toList == t.toList) = false := beq_false_of_ne hf0
                    clear hf0
                    clear hd
                    go_upto_region 13 with (fail)
                    (try simp only [Act.put, List.setIfInBounds_toArray, List.set_cons_zero, List.set_cons_succ])
                    go_quiet (fail)
                    go_wp2
                    go_roundw
                    case measure => first | (simp [intOf]; done) | (simp [intOf]; omega)
                    case rel => exact ⟨k + 1, by go_num, by omega, ⟨by rw [hst.out, hN.out, hsA.out]; rfl⟩, ⟨(cg : Chg (fun _ => False) W0 _)⟩⟩
                · skip
                  have hsA : Aside0 (sameC ⟨4, n2, t2⟩ ⟨4, 0, t⟩ = false) := ⟨by simp [sameC, hd]⟩
                  have hf : (n2 == 0) = false := by simpa using hd
                  clear hd
                  go_upto_region 13 with (fail)
                  (try simp only [Act.put, List.setIfInBounds_toArray, List.set_cons_zero, List.set_cons_succ])
                  go_quiet (fail)
                  go_wp2
                  go_roundw
                  case measure => first | (simp [intOf]; done) | (simp [intOf]; omega)
                  case rel => exact ⟨k + 1, by go_num, by omega, ⟨by rw [hst.out, hN.out, hsA.out]; rfl⟩, ⟨(cg : Chg (fun _ => False) W0 _)⟩⟩
              · skip
                have hsA : Aside0 (sameC ⟨kd2, n2, t2⟩ ⟨4, 0, t⟩ = false) := ⟨by simp [sameC, hd]⟩
                have hf : (kd2 == 4) = false := by simpa using hd
                clear hd
                go_upto_region 13 with (fail)
                (try simp only [Act.put, List.setIfInBounds_toArray, List.set_cons_zero, List.set_cons_succ])
                go_quiet (fail)
                go_wp2
                go_roundw
                case measure => first | (simp [intOf]; done) | (simp [intOf]; omega)
                case rel => exact ⟨k + 1, by go_num, by omega, ⟨by rw [hst.out, hN.out, hsA.out]; rfl⟩, ⟨(cg : Chg (fun _ => False) W0 _)⟩⟩
            · obtain rfl : k = i := by omega
              have he : Aside0 (constP l k ⟨4, 0, t⟩ = 0) := ⟨by unfold constP; rw [hb.out, if_neg (by decide), hN.out]; rfl⟩
              go_wp2
              go_ret
              exact ⟨by rw [he.out]; rfl, hz0.out.trans hCh.out (fun _ _ h => h)⟩
      · have he : Aside0 (constP l i ⟨4, n, t⟩ = 4) := ⟨by unfold constP; rw [show baseC ⟨4, n, t⟩ = 4 by simp [baseC, hn0]]; rfl⟩
        go_wp2
        go_ret
        exact ⟨by rw [he.out]; rfl, hz0.out⟩
    · have hq3 : (kd != 3) = true := by simpa using h3
      have hq4 : (kd != 4) = true := by simpa using h4
      have he : Aside0 (constP l i ⟨kd, n, t⟩ = 4) := ⟨by unfold constP; rw [show baseC ⟨kd, n, t⟩ = 4 by simp [baseC, h3, h4]]; rfl⟩
      go_wp2
      go_ret
      exact ⟨by rw [he.out]; rfl, hz0.out⟩
end Go.Proofs.YtgaackedappmgaaDoor.K
