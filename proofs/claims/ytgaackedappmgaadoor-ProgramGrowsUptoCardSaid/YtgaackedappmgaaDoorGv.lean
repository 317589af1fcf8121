import Derived.Test.YtgaackedappmgaaDoorBa
import Derived.IntWalk
import Derived.BigQuiet
namespace Go.Proofs.YtgaackedappmgaaDoor.K
open Go.RowKit Go.Proofs.YtgaackedappmgaaDoorW.PrintWords Go.Proofs.YtgaackedappmgaaDoorW.PrintLast Go.Proofs.YtgaackedappmgaaDoorW.PrintMore
set_option linter.unusedVariables false
set_option linter.unusedSimpArgs false
set_option maxRecDepth 100000
set_option maxHeartbeats 4000000
theorem ref_RightName (w : World) (s : ByteArray) (hz : s.size ≤ 140737488351232) : Calls Tryd.prog 20 #[.string s] w fun e w' => e = .returned (.bool (decide (nameE s = 0))) ∧ w' = w := by
  go_enter Tryd.func20, Tryd.ntmps20
  (try go_wp2)
  go_loopw [3] (fun i9 wr => ∃ n : Nat, i9 = .int .i64 n ∧ n ≤ s.size ∧ Aside0 (∀ (j : Nat) (h : j < s.size), j < n → letterB ((s[j]'h).toNat : Int) = true) ∧ wr = w) (fun i9 _ => s.size - (intOf i9).toNat)
  case atStart => exact ⟨0, rfl, by omega, ⟨fun j h hj => by omega⟩, rfl⟩
  case round =>
    obtain ⟨n, rfl, hnn, hN, rfl⟩ := hrel
    by_cases hlt : n < s.size
    · have hn0 : (0 : Int) ≤ n := by omega
      have hn1 : (n : Int) < s.size := by omega
      cases hl : letterB ((s[n]'hlt).toNat : Int) with
      | true =>
        have hcall : Aside0 (∀ W, Calls Tryd.prog 34 #[.int .u8 ((s[n]'hlt).toNat : Int)] W fun e w' => e = .returned (.bool true) ∧ w' = W) := ⟨fun W => by rw [← hl]; exact ref_letter W _⟩
        have hN2 : Aside0 (∀ (j : Nat) (h : j < s.size), j < n + 1 → letterB ((s[j]'h).toNat : Int) = true) := ⟨fun j h hj => by
          rcases Nat.lt_or_ge j n with h1 | h1
          · exact hN.out j h h1
          · obtain rfl : j = n := by omega
            exact hl⟩
        clear hl
        go_wp2_with (go_at_call 34; go_must (refine (hcall.out _).mono ?_); go_must (rintro e w1 ⟨rfl, hw1⟩); go_must (subst w1))
        go_roundw
        case measure => first | (simp [intOf]; done) | (simp [intOf]; omega)
        case rel => exact ⟨n + 1, by go_num, by omega, hN2, by first | trivial | rfl⟩
      | false =>
        have hcall : Aside0 (∀ W, Calls Tryd.prog 34 #[.int .u8 ((s[n]'hlt).toNat : Int)] W fun e w' => e = .returned (.bool false) ∧ w' = W) := ⟨fun W => by rw [← hl]; exact ref_letter W _⟩
        have he : Aside0 (decide (nameE s = 0) = false) := ⟨by unfold nameE; rw [if_pos (nameBad_hit hlt hl)]; decide⟩
        clear hl
        go_wp2_with (go_at_call 34; go_must (refine (hcall.out _).mono ?_); go_must (rintro e w1 ⟨rfl, hw1⟩); go_must (subst w1))
        go_ret
        exact ⟨by first | (rw [he.out]; done) | (rw [he.out]; rfl), by first | trivial | rfl⟩
    · have hB : Aside0 (nameBad s = false) := ⟨nameBad_none (fun j h => hN.out j h (by omega))⟩
      obtain rfl : n = s.size := by omega
      have hn1 : ¬ ((s.size : Int) < s.size) := by omega
      clear hlt
      by_cases hz2 : s.size = 0
      · have he : Aside0 (decide (nameE s = 0) = false) := ⟨by unfold nameE; rw [if_neg (by rw [hB.out]; decide), if_pos hz2]; decide⟩
        have hz3 : ¬ ((0 : Int) < s.size) := by omega
        clear hz2
        go_wp2
        go_ret
        exact ⟨by first | (rw [he.out]; done) | (rw [he.out]; rfl), by first | trivial | rfl⟩
      have hz3 : (0 : Int) < s.size := by omega
      by_cases hz4 : 32 < s.size
      · have he : Aside0 (decide (nameE s = 0) = false) := ⟨by unfold nameE; rw [if_neg (by rw [hB.out]; decide), if_neg hz2, if_pos hz4]; decide⟩
        have hz5 : ¬ ((s.size : Int) ≤ 32) := by omega
        clear hz2 hz4
        go_wp2
        go_ret
        exact ⟨by first | (rw [he.out]; done) | (rw [he.out]; rfl), by first | trivial | rfl⟩
      · have he : Aside0 (decide (nameE s = 0) = true) := ⟨by unfold nameE; rw [if_neg (by rw [hB.out]; decide), if_neg hz2, if_neg hz4]; decide⟩
        have hz5 : ((s.size : Int) ≤ 32) := by omega
        clear hz2 hz4
        go_wp2
        go_ret
        exact ⟨by first | (rw [he.out]; done) | (rw [he.out]; rfl), by first | trivial | rfl⟩
def shl12 (n : Int) : Int := wrap64 (n * 4096)
def rightB (l : List QC) (c : QC) : Bool := !(l.any (fun d => sameC d c)) && (if c.kind = 4 then decide (c.n = 0) && decide (c.text.size ≤ 4096) else decide (c.kind = 3) && (decide (c.text = ByteArray.empty) && decide (shl12 c.n = 0)))
theorem kQC_at3 {w : World} {A : Option Addr} {n : Nat} {l : List QC} (h : Kd.C kQC w A n l) (i : Nat) (h1 : i < n) : ∃ ad kd1 n1 t1, A = some ad ∧ l[i]? = some ⟨kd1, n1, t1⟩ ∧ w.cell? (ad.add (i * 3)) = some (.int .i64 kd1) ∧
    w.cell? ⟨(ad.add (i * 3)).block, (ad.add (i * 3)).off + 1, none⟩ = some (.int .i64 n1) ∧ w.cell? ⟨(ad.add (i * 3)).block, (ad.add (i * 3)).off + 2, none⟩ = some (.string t1) := by
  obtain ⟨e1, e2, e3⟩ := h
  obtain ⟨ad, ea, hc⟩ := e3 (by omega)
  have hi : i < l.length := by omega
  obtain ⟨cs, _, hk, hcell⟩ := hc i _ (List.getElem?_eq_getElem hi)
  rw [kQC_K] at hk
  subst hk
  have g1 := hcell 1 _ rfl
  have g2 := hcell 2 _ rfl
  have e5 : kQC.sz = 3 := rfl
  rw [e5] at g1 g2
  rw [← add_add] at g1 g2
  exact ⟨ad, l[i].kind, l[i].n, l[i].text, ea, List.getElem?_eq_getElem hi, hcell 0 _ rfl, g1, g2⟩
attribute [local go_sem high] eqAQC
set_option maxHeartbeats 4000000
theorem law_right (w : World) (A : Option Addr) (cap : Nat) (l : List QC) (kd n : Int) (t : ByteArray) (hC : Kd.C kQC w A l.length l) (hl : l.length ≤ 1048576) :
    Calls Tryd.prog 21 #[.slice A l.length cap, .agg #[.int .i64 kd, .int .i64 n, .string t]] w fun e w' => e = .returned (.bool (rightB l ⟨kd, n, t⟩)) ∧ Chg (fun _ => False) w w' := by
  have hCA := Aside0.mk hC
  clear hC
  go_enter Tryd.func21, Tryd.ntmps21
  go_upto_region 1 with (fail)
  (try simp only [Act.put, List.setIfInBounds_toArray, List.set_cons_zero, List.set_cons_succ])
  generalize hW : World.alloc w _ = W0
  have B1 : Aside0 (W0.heap[w.heap.size]? = some (.cells #[.int .i64 kd, .int .i64 n, .string t] 39)) := ⟨by rw [← hW]; exact heap_alloc_new w _⟩
  have hz0 : Aside0 (Chg (fun _ => False) w W0) := ⟨by rw [← hW]; exact cg⟩
  clear hW
  (try go_wp2)
  go_loopw [5] (fun i6 wr => ∃ k : Nat, i6 = .int .i64 k ∧ k ≤ l.length ∧ Aside0 ((l.take k).any (fun d => sameC d ⟨kd, n, t⟩) = false) ∧ Aside0 (Chg (fun _ => False) W0 wr)) (fun i6 _ => l.length - (intOf i6).toNat)
  case atStart => exact ⟨0, rfl, by omega, ⟨by simp⟩, ⟨Chg.refl _ _⟩⟩
  case round =>
    obtain ⟨k, rfl, hk, hN, hCh⟩ := hrel
    have hz1 : Aside0 (Chg (fun _ => False) w wr) := ⟨hz0.out.trans hCh.out (fun _ _ h => h)⟩
    replace B1 := Aside0.mk (hCh.out.blk B1.out (fun h => h))
    have p0 : wr.cell? ⟨w.heap.size, 0, none⟩ = some (.int .i64 kd) := blk_cell B1.out 0
    have p1 : wr.cell? ⟨w.heap.size, 1, none⟩ = some (.int .i64 n) := blk_cell B1.out 1
    have p2 : wr.cell? ⟨w.heap.size, 2, none⟩ = some (.string t) := blk_cell B1.out 2
    by_cases hki : k < l.length
    · have hk0 : (0 : Int) ≤ k := by omega
      have hk2 : (k : Int) < l.length := by omega
      obtain ⟨ad, kd2, n2, t2, e1, e2, y0, y1, y2⟩ := kQC_at3 (C_chg hCA.out (hz1.out.below (fun _ _ h => h))) k hki
      subst e1
      have e2A := Aside0.mk e2
      clear e2
      have hst : Aside0 ((l.take (k + 1)).any (fun d => sameC d ⟨kd, n, t⟩) = ((l.take k).any (fun d => sameC d ⟨kd, n, t⟩) || sameC ⟨kd2, n2, t2⟩ ⟨kd, n, t⟩)) := ⟨by rw [List.take_add_one, e2A.out]; simp⟩
      by_cases hd : kd2 = kd
      · subst kd2
        by_cases hd : n2 = n
        · subst n2
          by_cases hd : t2 = t
          · subst t2
            have he : Aside0 (rightB l ⟨kd, n, t⟩ = false) := ⟨by
              unfold rightB
              rw [(List.any_eq_true (p := fun d => sameC d ⟨kd, n, t⟩)).2 ⟨⟨kd, n, t⟩, List.mem_of_getElem? e2A.out, sameC_iff.2 rfl⟩]
              rfl⟩
            go_upto_region 4 with (fail)
            (try simp only [Act.put, List.setIfInBounds_toArray, List.set_cons_zero, List.set_cons_succ])
            go_quiet (fail)
            go_wp2
            go_ret
            exact ⟨by first | (rw [he.out]; done) | (rw [he.out]; rfl), hz0.out.trans (cg : Chg (fun _ => False) W0 _) (fun _ _ h => h)⟩
          · have hsA : Aside0 (sameC ⟨kd, n, t2⟩ ⟨kd, n, t⟩ = false) := ⟨by simp [sameC, hd]⟩
            have hf : (t2.toList == t.toList) = false := by rw [ba_beqY]; simpa using hd
            clear hd
            go_upto_region 4 with (fail)
            (try simp only [Act.put, List.setIfInBounds_toArray, List.set_cons_zero, List.set_cons_succ])
            go_quiet (fail)
            go_wp2
            go_roundw
            case measure => first | (simp [intOf]; done) | (simp [intOf]; omega)
            case rel => exact ⟨k + 1, by go_num, by omega, ⟨by rw [hst.out, hN.out, hsA.out]; rfl⟩, ⟨(cg : Chg (fun _ => False) W0 _)⟩⟩
        · have hsA : Aside0 (sameC ⟨kd, n2, t2⟩ ⟨kd, n, t⟩ = false) := ⟨by simp [sameC, hd]⟩
          have hf : (n2 == n) = false := by simpa using hd
          clear hd
          go_upto_region 4 with (fail)
          (try simp only [Act.put, List.setIfInBounds_toArray, List.set_cons_zero, List.set_cons_succ])
          go_quiet (fail)
          go_wp2
          go_roundw
          case measure => first | (simp [intOf]; done) | (simp [intOf]; omega)
          case rel => exact ⟨k + 1, by go_num, by omega, ⟨by rw [hst.out, hN.out, hsA.out]; rfl⟩, ⟨(cg : Chg (fun _ => False) W0 _)⟩⟩
      · have hsA : Aside0 (sameC ⟨kd2, n2, t2⟩ ⟨kd, n, t⟩ = false) := ⟨by simp [sameC, hd]⟩
        have hf : (kd2 == kd) = false := by simpa using hd
        clear hd
        go_upto_region 4 with (fail)
        (try simp only [Act.put, List.setIfInBounds_toArray, List.set_cons_zero, List.set_cons_succ])
        go_quiet (fail)
        go_wp2
        go_roundw
        case measure => first | (simp [intOf]; done) | (simp [intOf]; omega)
        case rel => exact ⟨k + 1, by go_num, by omega, ⟨by rw [hst.out, hN.out, hsA.out]; rfl⟩, ⟨(cg : Chg (fun _ => False) W0 _)⟩⟩
    · obtain rfl : k = l.length := by omega
      have hk2 : ¬ (l.length : Int) < l.length := by omega
      have hA : Aside0 (l.any (fun d => sameC d ⟨kd, n, t⟩) = false) := ⟨by have := hN.out; rwa [List.take_length] at this⟩
      clear hki hN
      by_cases h4 : kd = 4
      · subst h4
        by_cases hn : n = 0
        · subst hn
          by_cases ht : t.size ≤ 4096
          · have ht2 : ((t.size : Int) ≤ 4096) := by omega
            have he : Aside0 (rightB l ⟨4, 0, t⟩ = true) := ⟨by unfold rightB; rw [hA.out]; simp [ht]⟩
            clear ht
            go_wp2
            go_ret
            exact ⟨by first | (rw [he.out]; done) | (rw [he.out]; rfl), hz1.out⟩
          · have ht2 : ¬ ((t.size : Int) ≤ 4096) := by omega
            have he : Aside0 (rightB l ⟨4, 0, t⟩ = false) := ⟨by unfold rightB; rw [hA.out]; simp [ht]⟩
            clear ht
            go_wp2
            go_ret
            exact ⟨by first | (rw [he.out]; done) | (rw [he.out]; rfl), hz1.out⟩
        · have hn2 : (n == 0) = false := by simpa using hn
          have he : Aside0 (rightB l ⟨4, n, t⟩ = false) := ⟨by unfold rightB; rw [hA.out]; simp [hn]⟩
          clear hn
          go_wp2
          go_ret
          exact ⟨by first | (rw [he.out]; done) | (rw [he.out]; rfl), hz1.out⟩
      have h42 : (kd == 4) = false := by simpa using h4
      by_cases h3 : kd = 3
      · subst h3
        clear h42
        by_cases ht : t = ByteArray.empty
        · subst ht
          by_cases hs : shl12 n = 0
          · have hs2 : (shl12 n == 0) = true := by simpa using hs
            have he : Aside0 (rightB l ⟨3, n, ByteArray.empty⟩ = true) := ⟨by unfold rightB; rw [hA.out]; simp [hs]⟩
            clear hs h4
            unfold shl12 at hs2
            go_wp2
            go_ret
            exact ⟨by first | (rw [he.out]; done) | (rw [he.out]; rfl), hz1.out⟩
          · have hs2 : (shl12 n == 0) = false := by simpa using hs
            have he : Aside0 (rightB l ⟨3, n, ByteArray.empty⟩ = false) := ⟨by unfold rightB; rw [hA.out]; simp [hs]⟩
            clear hs h4
            unfold shl12 at hs2
            go_wp2
            go_ret
            exact ⟨by first | (rw [he.out]; done) | (rw [he.out]; rfl), hz1.out⟩
        · have hte : t.toList.isEmpty = false := by
            cases h : t.toList with
            | nil => exact absurd (ByteArray.ext (Array.toList_inj.1 (by rw [← ByteArray.toList_eq, h]; rfl))) ht
            | cons a l => rfl
          have he : Aside0 (rightB l ⟨3, n, t⟩ = false) := ⟨by unfold rightB; rw [hA.out]; simp [ht]⟩
          clear ht h4
          go_wp2
          go_ret
          exact ⟨by first | (rw [he.out]; done) | (rw [he.out]; rfl), hz1.out⟩
      · have h32 : (kd == 3) = false := by simpa using h3
        have he : Aside0 (rightB l ⟨kd, n, t⟩ = false) := ⟨by unfold rightB; rw [hA.out]; simp [h3, h4]⟩
        clear h3 h4
        go_wp2
        go_ret
        exact ⟨by first | (rw [he.out]; done) | (rw [he.out]; rfl), hz1.out⟩
end Go.Proofs.YtgaackedappmgaaDoor.K

namespace Go.Proofs.YtgaackedappmgaaDoor.K
open Go.RowKit Go.Proofs.YtgaackedappmgaaDoorW.PrintWords Go.Proofs.YtgaackedappmgaaDoorW.PrintLast Go.Proofs.YtgaackedappmgaaDoorW.PrintMore
set_option linter.unusedVariables false
set_option linter.unusedSimpArgs false
set_option maxRecDepth 100000
theorem fn_zero {p : QP} {j : Nat} {f : QF} (h : (functionP chkP p j f).2 = 0) : (headP p j f).2 = 0 ∧ (restQ p f).2 = 0 := by
  unfold functionP at h
  by_cases h1 : (headP p j f).2 ≠ 0
  · rw [if_pos h1] at h
    exact absurd h h1
  · rw [if_neg h1] at h
    exact ⟨Classical.not_not.1 h1, h⟩
theorem fn_of_zero {p : QP} {j : Nat} {f : QF} (h1 : (headP p j f).2 = 0) (h2 : (restQ p f).2 = 0) : (functionP chkP p j f).2 = 0 := by
  unfold functionP
  rw [if_neg (by rw [h1]; decide)]
  exact h2
theorem instr_mono {p p' : QP} {f : QF} {i : QI} (hc : ∀ a : Nat, a < p.consts.length → p'.consts[a]? = p.consts[a]?) (hcl : p.consts.length ≤ p'.consts.length) (hl : p.funcs.length ≤ p'.funcs.length) (h : instrP chkP p f i = 0) : instrP chkP p' f i = 0 := by
  unfold instrP at h ⊢
  by_cases h1 : chkP i.op i.a ≠ 0
  · rw [if_pos h1] at h
    exact absurd h h1
  rw [if_neg h1] at h ⊢
  by_cases h2 : namesP p f i = true
  · rw [if_pos]
    unfold namesP at h2 ⊢
    by_cases k2 : (rowP i.op).kind = 2
    · rw [if_pos k2] at h2 ⊢; exact h2
    rw [if_neg k2] at h2 ⊢
    by_cases k3 : (rowP i.op).kind = 3
    · rw [if_pos k3] at h2 ⊢; exact h2
    rw [if_neg k3] at h2 ⊢
    by_cases k5 : (rowP i.op).kind = 5
    · rw [if_pos k5] at h2 ⊢
      have := of_decide_eq_true h2
      exact decide_eq_true (by omega)
    rw [if_neg k5] at h2 ⊢
    by_cases k4 : (rowP i.op).kind = 4
    · rw [if_pos k4] at h2 ⊢
      rw [Bool.and_eq_true, Bool.or_eq_true] at h2 ⊢
      have h3 := of_decide_eq_true h2.1
      refine ⟨decide_eq_true (by omega), ?_⟩
      rcases h2.2 with h4 | h4
      · exact .inl h4
      · right
        cases h5 : p.consts[i.a.toNat]? with
        | none => rw [h5] at h4; cases h4
        | some c =>
          rw [hc _ (List.getElem?_eq_some_iff.1 h5).1]
          exact h4
    · rw [if_neg k4] at h2 ⊢
  · rw [if_neg h2] at h
    exact absurd h (by decide)
theorem rest_mono {p p' : QP} {f : QF} (hc : ∀ a : Nat, a < p.consts.length → p'.consts[a]? = p.consts[a]?) (hcl : p.consts.length ≤ p'.consts.length) (hl : p.funcs.length ≤ p'.funcs.length) (h : (restQ p f).2 = 0) : restQ p' f = (0, 0) := by
  obtain ⟨a1, a2, a3⟩ := rest_ok h
  exact rest_is (fun j i hi => instr_mono hc hcl hl (a1 j i hi)) a2 a3
theorem head_take {p p' : QP} {j : Nat} {f : QF} (h : p'.funcs.take j = p.funcs.take j) : headP p' j f = headP p j f := by
  unfold headP
  rw [h]
theorem grow_nop {p : QP} {k pc : Nat} {f : QF} (h : Fits p) (hf : p.funcs[k]? = some f) (hpc : pc < f.code.length) : Fits ⟨p.consts, p.funcs.set k ⟨f.name, f.pars, f.locs, f.code.set pc ⟨0, 0⟩, f.hnd⟩⟩ := by
  have hkl := (List.getElem?_eq_some_iff.1 hf).1
  have hok := fn_ok (h.fs k f hf)
  obtain ⟨_, a2, a3⟩ := rest_ok hok.rest
  exact fits_set h hf rfl (congrArg Prod.snd (fn_is (f' := ⟨f.name, f.pars, f.locs, f.code.set pc ⟨0, 0⟩, f.hnd⟩) hok hkl rfl rfl rfl (by simp only [List.length_set]) (rest_code_ok hok.rest rfl (by simp only [List.length_set]) rfl rfl good_nop a2 a3)))
theorem grow_hnd {p : QP} {k : Nat} {f : QF} {hs : List QH} (h : Fits p) (hf : p.funcs[k]? = some f) (h1 : hs.length ≤ f.hnd.length) (h2 : ∀ x ∈ hs, x ∈ f.hnd) : Fits ⟨p.consts, p.funcs.set k ⟨f.name, f.pars, f.locs, f.code, hs⟩⟩ := by
  have hkl := (List.getElem?_eq_some_iff.1 hf).1
  have hok := fn_ok (h.fs k f hf)
  obtain ⟨_, a2, a3⟩ := rest_ok hok.rest
  exact fits_set h hf rfl (congrArg Prod.snd (fn_is (f' := ⟨f.name, f.pars, f.locs, f.code, hs⟩) hok hkl rfl rfl rfl rfl (rest_hnd_ok hok.rest rfl (by simp only [List.length_set]) rfl rfl (by show hs.length ≤ 32; omega) (fun j x hx => by
    obtain ⟨j', hj'⟩ := List.getElem?_of_mem (h2 x (List.mem_of_getElem? hx))
    exact a3 j' x hj'))))
def nopF (nm : ByteArray) : QF := ⟨nm, 0, 0, [⟨0, 0⟩], []⟩
theorem grow_func {p : QP} {nm : ByteArray} (h : Fits p) (h1 : nameE nm = 0) (h2 : ∀ g ∈ p.funcs, g.name ≠ nm) (h3 : p.funcs.length < 128) : Fits ⟨p.consts, p.funcs ++ [nopF nm]⟩ := by
  refine ⟨h.nc, h.cs, by simp only [List.length_append]; have := h.nf; omega, by simp only [List.length_append, List.length_singleton]; omega, fun j f hj => ?_⟩
  simp only at hj
  rcases Nat.lt_or_ge j p.funcs.length with hl | hl
  · rw [List.getElem?_append_left hl] at hj
    obtain ⟨a1, a2⟩ := fn_zero (h.fs j f hj)
    refine fn_of_zero (by rw [head_take (p := p) (p' := ⟨p.consts, p.funcs ++ [nopF nm]⟩) (by (try simp only); rw [List.take_append_of_le_length (by omega)])]; exact a1) ?_
    exact congrArg Prod.snd (rest_mono (p := p) (p' := ⟨p.consts, p.funcs ++ [nopF nm]⟩) (fun _ _ => rfl) (Nat.le_refl _) (by simp only [List.length_append]; omega) a2)
  · rw [List.getElem?_append_right hl] at hj
    have hj0 : j - p.funcs.length = 0 := by have := (List.getElem?_eq_some_iff.1 hj).1; simp at this; omega
    rw [hj0] at hj
    simp at hj
    have hjl : j = p.funcs.length := by omega
    subst hjl
    subst hj
    rw [function_rest, if_neg (by show ¬ nameE nm ≠ 0; rw [h1]; decide)]
    simp only
    rw [List.take_left, if_neg]
    · unfold restP
      rw [if_neg (by rintro (h | h | h); exact absurd (show (0 : Int) < 0 from h) (by decide); exact absurd (show (0 : Int) < 0 from h) (by decide); exact h.2 rfl), if_neg (show ¬ (64 : Int) < (nopF nm).locs from by show ¬ (64 : Int) < 0; decide), if_neg (show ¬ (nopF nm).code.length = 0 from by show ¬ (1 : Nat) = 0; decide), if_neg (show ¬ 2000 < (nopF nm).code.length from by show ¬ 2000 < (1 : Nat); decide), rest_is]
      · intro j i hi
        cases j with
        | zero => injection hi with hi; rw [← hi]; exact good_nop
        | succ j => cases hi
      · show (0 : Nat) ≤ 32; decide
      · intro j x hx
        cases hx
    · intro hb
      obtain ⟨g, hg, he⟩ := List.any_eq_true.1 hb
      exact h2 g hg (of_decide_eq_true he)
theorem constP_take {l l' : List QC} {i : Nat} {c : QC} (h : l'.take i = l.take i) : constP l' i c = constP l i c := by
  unfold constP
  rw [h]
theorem shl_nan {n : Int} (h0 : -9223372036854775808 ≤ n) (h1 : n ≤ 9223372036854775807) (h : shl12 n = 0) : nanB n = false := by
  unfold shl12 wrap64 at h
  unfold nanB
  have : ¬ 18437736874454810624 < IntKind.u64.wrap (IntKind.u64.wrap n * 2) := by
    simp only [IntKind.wrap, IntKind.signed, IntKind.bits]
    simp
    omega
  rw [decide_eq_false this]
  rfl
theorem grow_const {p : QP} {c : QC} (h : Fits p) (hw : CWf c) (h1 : rightB p.consts c = true) (h3 : p.consts.length < 512) : Fits ⟨p.consts ++ [c], p.funcs⟩ := by
  refine ⟨by simp only [List.length_append, List.length_singleton]; omega, fun i d hd => ?_, h.nf, h.mf, fun j f hj => ?_⟩
  · simp only at hd ⊢
    rcases Nat.lt_or_ge i p.consts.length with hl | hl
    · rw [List.getElem?_append_left hl] at hd
      rw [constP_take (l := p.consts) (by rw [List.take_append_of_le_length (by omega)])]
      exact h.cs i d hd
    · rw [List.getElem?_append_right hl] at hd
      have hj0 : i - p.consts.length = 0 := by have := (List.getElem?_eq_some_iff.1 hd).1; simp at this; omega
      rw [hj0] at hd
      simp at hd
      have hil : i = p.consts.length := by omega
      subst hil
      subst hd
      unfold rightB at h1
      rw [Bool.and_eq_true] at h1
      have h4 : (p.consts.any fun d => sameC d c) = false := by simpa using h1.1
      have hb : baseC c = 0 := by
        have h5 := h1.2
        unfold baseC
        by_cases k4 : c.kind = 4
        · rw [if_pos k4] at h5
          rw [Bool.and_eq_true] at h5
          have h6 := of_decide_eq_true h5.1
          have h7 := of_decide_eq_true h5.2
          rw [if_neg (by rw [k4]; decide), if_neg (by rw [k4]; exact fun h => absurd h.1 (by decide)), if_neg (fun h => h.2 h6), if_neg (by omega)]
        · rw [if_neg k4] at h5
          rw [Bool.and_eq_true, Bool.and_eq_true] at h5
          have h6 := of_decide_eq_true h5.1
          have h7 := of_decide_eq_true h5.2.1
          have h8 := of_decide_eq_true h5.2.2
          have hn := hw.n
          have hn2 : nanB c.n = false := shl_nan (by simp [Lit.wf, IntKind.min, IntKind.max, IntKind.signed, IntKind.bits] at hn; exact hn.1) (by simp [Lit.wf, IntKind.min, IntKind.max, IntKind.signed, IntKind.bits] at hn; exact hn.2) h8
          rw [if_neg (by rw [h6]; decide), if_neg (by rintro ⟨_, h | h⟩; exact h h7; rw [hn2] at h; cases h), if_neg (by rw [h6]; rintro ⟨h, _⟩; exact absurd h (by decide)), if_neg (by rw [h7]; decide)]
      unfold constP
      rw [if_neg (by rw [hb]; decide), List.take_left, if_neg (by rw [h4]; decide)]
  · simp only at hj
    obtain ⟨a1, a2⟩ := fn_zero (h.fs j f hj)
    refine fn_of_zero (by rw [head_take (p := p) (p' := ⟨p.consts ++ [c], p.funcs⟩) rfl]; exact a1) ?_
    exact congrArg Prod.snd (rest_mono (p := p) (p' := ⟨p.consts ++ [c], p.funcs⟩) (fun a ha => by (try simp only); rw [List.getElem?_append_left ha]) (by simp only [List.length_append]; omega) (Nat.le_refl _) a2)
theorem grow_params {p : QP} {f : QF} (h : Fits p) (hf : p.funcs[0]? = some f) : checkP chkP ⟨p.consts, p.funcs.set 0 ⟨f.name, 1, f.locs, f.code, f.hnd⟩⟩ = ((0, 0), 1) := by
  have hkl := (List.getElem?_eq_some_iff.1 hf).1
  have hok := fn_ok (h.fs 0 f hf)
  exact check_func (f' := ⟨f.name, 1, f.locs, f.code, f.hnd⟩) h hf ((fn_rest (f' := ⟨f.name, 1, f.locs, f.code, f.hnd⟩) hok hkl rfl).trans (by unfold restP; rw [if_pos (Or.inr (Or.inr ⟨rfl, by show (1 : Int) ≠ 0; decide⟩))])) (by decide)
theorem find_none {rs : List QR} {p : QP} {nm : ByteArray} (hl : rs.length = p.funcs.length) (hn : ∀ (k : Nat) (r : QR) (f : QF), rs[k]? = some r → p.funcs[k]? = some f → r.name = f.name) (h : (findN rs nm 0).2 = false) : ∀ g ∈ p.funcs, g.name ≠ nm := by
  have key : ∀ (l : List QR) (i : Nat), (findN l nm i).2 = false → ∀ r ∈ l, r.name ≠ nm := by
    intro l
    induction l with
    | nil => intro i _ r hr; cases hr
    | cons a l ih =>
      intro i hi r hr
      unfold findN at hi
      by_cases ha : a.name = nm
      · rw [if_pos ha] at hi; cases hi
      · rw [if_neg ha] at hi
        rcases List.mem_cons.1 hr with e | e
        · rw [e]; exact ha
        · exact ih _ hi r e
  intro g hg
  obtain ⟨k, hk⟩ := List.getElem?_of_mem hg
  have hkl := (List.getElem?_eq_some_iff.1 hk).1
  obtain ⟨r, hr⟩ : ∃ r, rs[k]? = some r := ⟨_, List.getElem?_eq_getElem (by omega)⟩
  rw [← hn k r g hr hk]
  exact key rs 0 h r (List.mem_of_getElem? hr)
end Go.Proofs.YtgaackedappmgaaDoor.K

namespace Go.Proofs.YtgaackedappmgaaDoor.K
open Go.RowKit Go.Proofs.YtgaackedappmgaaDoorW.PrintWords Go.Proofs.YtgaackedappmgaaDoorW.PrintLast Go.Proofs.YtgaackedappmgaaDoorW.PrintMore
set_option linter.unusedVariables false
set_option linter.unusedSimpArgs false
set_option maxRecDepth 100000
theorem oq_one {w : World} {lo g : Nat} {a b : Int} (hb : w.heap[g]? = some (.cells #[.int .i64 a, .int .i64 b] 50 (0, 0))) (hl : lo ≤ g) : Oq kQI 50 w lo (some ⟨g, 0, none⟩, 1, 1) [⟨a, b⟩] := by
  refine ⟨⟨fun k hk => hk.symm, [.int .i64 a, .int .i64 b], ⟨rfl, .inr ⟨g, 1, _, rfl, Nat.zero_le _, hb, Nat.le_refl 1, by decide, rfl, rfl⟩⟩, ⟨rfl, fun i x hx => ?_⟩⟩, fun k hk => ?_⟩
  · cases i with
    | zero => injection hx with hx; subst hx; exact kQI_M _ _ _ _
    | succ i => simp at hx
  · injection hk with hk
    rw [← hk]; exact hl
theorem POwn.putH4 {w : World} {lo gF n c k : Nat} {vC v' : SV} {p : QP} {rs : List QR} {r : QR} {f : QF} {hs' : List QH} (h : POwn w lo vC (some ⟨gF, 0, none⟩, n, c) p rs) (hx : rs[k]? = some r) (hf : p.funcs[k]? = some f) (hn : Oq kQH 54 w lo v' hs') : POwn (w.setCell ⟨gF, k * 5 + 4, none⟩ (svl v')) lo vC (some ⟨gF, 0, none⟩, n, c) ⟨p.consts, p.funcs.set k ⟨f.name, f.pars, f.locs, f.code, hs'⟩⟩ (rs.set k ⟨r.name, r.pars, r.locs, r.code, v'⟩) := by
  have hs : Chg (fun b => b = gF) w (w.setCell ⟨gF, k * 5 + 4, none⟩ (svl v')) := (Chg.refl (fun b => b = gF) w).setCell (p := ⟨gF, k * 5 + 4, none⟩) (fun _ => rfl) _
  obtain ⟨cs, hcs⟩ := Kd.R_typed h.fs.1 gF rfl
  have hh : ∀ {ts : List TypeId}, 47 ∉ ts → HitsQ w lo (fun b => b = gF) ts := fun ht b cs' t hb _ hq hm => by
    subst hb
    rw [hcs] at hq
    injection hq with hq
    injection hq with _ hq
    rw [hq] at ht
    exact ht hm
  have hkl := (List.getElem?_eq_some_iff.1 hf).1
  have hkr := (List.getElem?_eq_some_iff.1 hx).1
  refine ⟨h.cs.hit hs (hh (ts := [39]) (by decide)) (by decide), Oq.put kQR_K kQR_M rfl h.fs hx rfl (by decide), by simp only [List.length_set]; exact h.fn.1, fun i a g hi hg => ?_⟩
  simp only at hg
  by_cases e : k = i
  · subst e
    rw [List.getElem?_set, if_pos rfl, if_pos hkr] at hi
    rw [List.getElem?_set, if_pos rfl, if_pos hkl] at hg
    injection hi with hi
    injection hg with hg
    subst hi hg
    obtain ⟨a1, a2, a3, a4, _⟩ := h.fn.2 k r f hx hf
    exact ⟨a1, a2, a3, a4.hit hs (hh (ts := [50]) (by decide)) (by decide), hn.hit hs (hh (ts := [54]) (by decide)) (by decide)⟩
  · rw [List.getElem?_set_ne e] at hi hg
    obtain ⟨b1, b2, b3, b4, b5⟩ := h.fn.2 i a g hi hg
    exact ⟨b1, b2, b3, b4.hit hs (hh (ts := [50]) (by decide)) (by decide), b5.hit hs (hh (ts := [54]) (by decide)) (by decide)⟩
theorem POwn.addF {w w1 : World} {lo : Nat} {vC vF v' : SV} {p : QP} {rs : List QR} {r : QR} {f : QF} (h : POwn w lo vC vF p rs) (hl : lo ≤ w.heap.size) (hc : Chg (fun b => (svl vF).ownBlock = some b) w w1) (hr : Kd.R kQR 47 w1 0 (New (fun b => (svl vF).ownBlock = some b) w w1) (svl v') (rs ++ [r])) (hn : r.name = f.name ∧ r.pars = f.pars ∧ r.locs = f.locs ∧ Oq kQI 50 w1 lo r.code f.code ∧ Oq kQH 54 w1 lo r.hnd f.hnd) : POwn w1 lo vC v' ⟨p.consts, p.funcs ++ [f]⟩ (rs ++ [r]) := by
  have hfn := h.fn.hit hc (HitsQ.own h.fs (by decide))
  refine ⟨h.cs.hit hc (HitsQ.own (ts := [39]) h.fs (by decide)) (by decide), Oq.app rfl h.fs hr hl, by simp only [List.length_append]; rw [hfn.1]; rfl, fun i a g hi hg => ?_⟩
  simp only at hg
  rcases Nat.lt_or_ge i rs.length with h1 | h1
  · rw [List.getElem?_append_left h1] at hi
    rw [List.getElem?_append_left (by rw [← hfn.1]; exact h1)] at hg
    exact hfn.2 i a g hi hg
  · rw [List.getElem?_append_right h1] at hi
    rw [List.getElem?_append_right (by rw [← hfn.1]; exact h1), ← hfn.1] at hg
    have hj0 : i - rs.length = 0 := by have := (List.getElem?_eq_some_iff.1 hi).1; simp at this; omega
    rw [hj0] at hi hg
    injection hi with hi
    injection hg with hg
    rw [← hi, ← hg]
    exact hn
structure GSt (w W : World) (lo bq bc : Nat) (vA uA : Option Addr) (vK uK : Nat) (p : QP) (rs : List QR) (c : QC) : Prop where
  own : POwn W lo (vA, p.consts.length, vK) (uA, p.funcs.length, uK) p rs
  fit : Fits p
  wf : PWf p
  ch : Chg (fun _ => False) w W
  q : W.heap[bq]? = some (.cells #[.slice vA p.consts.length vK, .slice uA p.funcs.length uK] 25 (0, 0))
  c : W.heap[bc]? = some (.cells #[.int .i64 c.kind, .int .i64 c.n, .string c.text] 39 (0, 0))
  lw : w.heap.size ≤ lo
  lc : bc < lo
  lq : lo ≤ bq
  e : W.cell? ⟨0, 0, none⟩ = some (.iface 114 (.agg #[.pointer (some ⟨2, 68, none⟩)]))
theorem GSt.new {w W W' : World} {lo bq bc : Nat} {vA uA : Option Addr} {vK uK : Nat} {p : QP} {rs : List QR} {c : QC} (h : GSt w W lo bq bc vA uA vK uK p rs c) (hc : Chg (fun _ => False) W W') : GSt w W' lo bq bc vA uA vK uK p rs c :=
  ⟨h.own.new hc, h.fit, h.wf, h.ch.trans hc (fun _ _ h => h), hc.blk h.q (fun h => h), hc.blk h.c (fun h => h), h.lw, h.lc, h.lq, cell_chg0 h.e hc⟩
theorem GSt.ll {w W : World} {lo bq bc : Nat} {vA uA : Option Addr} {vK uK : Nat} {p : QP} {rs : List QR} {c : QC} (h : GSt w W lo bq bc vA uA vK uK p rs c) : lo ≤ W.heap.size := by have := blk_lt h.q; have := h.lq; omega
theorem GSt.put {w W W' : World} {lo bq bc g : Nat} {vA uA vA' uA' : Option Addr} {vK uK vK' uK' : Nat} {p p' : QP} {rs rs' : List QR} {c : QC} (h : GSt w W lo bq bc vA uA vK uK p rs c) (hs : Chg (fun b => b = g) W W') (hg : lo ≤ g) (hg0 : 0 < lo)
    (ho : POwn W' lo (vA', p'.consts.length, vK') (uA', p'.funcs.length, uK') p' rs') (hf : Fits p') (hw : PWf p') (hq : W'.heap[bq]? = some (.cells #[.slice vA' p'.consts.length vK', .slice uA' p'.funcs.length uK'] 25 (0, 0))) : GSt w W' lo bq bc vA' uA' vK' uK' p' rs' c :=
  ⟨ho, hf, hw, h.ch.trans hs (fun b hb e => by have := h.lw; omega), hq, hs.blk h.c (by have := h.lc; omega), h.lw, h.lc, h.lq, cell_chgY hs (by show ¬ 0 = g; omega) h.e⟩
theorem GSt.addF {w W W1 : World} {lo bq bc n2 c2 : Nat} {vA uA A2 : Option Addr} {vK uK : Nat} {p : QP} {rs : List QR} {c : QC} {nm : ByteArray} {r : QR} (h : GSt w W lo bq bc vA uA vK uK p rs c) (hg0 : 0 < lo) (hc : Chg (fun b => (svl (uA, p.funcs.length, uK)).ownBlock = some b) W W1) (hr : Kd.R kQR 47 W1 0 (New (fun b => (svl (uA, p.funcs.length, uK)).ownBlock = some b) W W1) (.slice A2 n2 c2) (rs ++ [r]))
    (hn : r.name = (nopF nm).name ∧ r.pars = (nopF nm).pars ∧ r.locs = (nopF nm).locs ∧ Oq kQI 50 W1 lo r.code (nopF nm).code ∧ Oq kQH 54 W1 lo r.hnd (nopF nm).hnd) (hz : nm.size ≤ 140737488351232) (h1 : nameE nm = 0) (h2 : (findN rs nm 0).2 = false) (h3 : p.funcs.length < 128) :
    GSt w (W1.setCell ⟨bq, 1, none⟩ (.slice A2 n2 c2)) lo bq bc vA A2 vK c2 ⟨p.consts, p.funcs ++ [nopF nm]⟩ (rs ++ [r]) c := by
  have hn2 : n2 = p.funcs.length + 1 := by
    have := (R_toC (v := (A2, n2, c2)) hr).1
    rw [List.length_append, List.length_singleton, h.own.fn.1] at this
    exact this.symm
  have hown := h.own.addF (v' := (A2, n2, c2)) h.ll hc hr hn
  have hb : ∀ g, (svl (uA, p.funcs.length, uK)).ownBlock = some g → lo ≤ g := h.own.fs.2
  have hne : ¬ (svl (uA, p.funcs.length, uK)).ownBlock = some bq := fun e => Oq.ne_blk h.own.fs h.q (by decide) e rfl
  have hq1 := hc.blk h.q hne
  have hs : Chg (fun b => b = bq) W1 (W1.setCell ⟨bq, 1, none⟩ (.slice A2 n2 c2)) := (Chg.refl (fun b => b = bq) W1).setCell (p := ⟨bq, 1, none⟩) (fun _ => rfl) _
  have hl2 : (p.funcs ++ [nopF nm]).length = n2 := by rw [hn2, List.length_append, List.length_singleton]
  refine ⟨by simp only; rw [hl2]; exact hown.box hq1 (by decide), grow_func h.fit h1 (find_none h.own.fn.1 (fun k r f hr hf => (h.own.fn.2 k r f hr hf).1) h2) h3, ⟨⟨h.wf.sm.c, by simp only; rw [hl2]; omega, fun g hg => ?_⟩, h.wf.cs⟩, (h.ch.trans hc (fun b hb' e => by have := hb b e; have := h.lw; omega)).trans hs (fun b hb' e => by have := h.lw; have := h.lq; omega), by simp only; rw [hl2]; exact blk_set hq1 1 _, hs.blk (hc.blk h.c (fun e => by have := hb _ e; have := h.lc; omega)) (by have := h.lc; have := h.lq; omega), h.lw, h.lc, h.lq, cell_chgY hs (by have := h.lq; show ¬ 0 = bq; omega) (cell_chgY hc (fun e => by have := hb _ e; change lo ≤ 0 at this; omega) h.e)⟩
  rcases List.mem_append.1 hg with h5 | h5
  · exact h.wf.sm.fs g h5
  · rw [List.mem_singleton.1 h5]
    exact ⟨hz, by show 1 ≤ 1048576; decide, by show 0 ≤ 1048576; decide⟩
theorem GSt.addC {w W W1 : World} {lo bq bc n2 c2 : Nat} {vA uA A2 : Option Addr} {vK uK : Nat} {p : QP} {rs : List QR} {c : QC} (h : GSt w W lo bq bc vA uA vK uK p rs c) (hg0 : 0 < lo) (hc : Chg (fun b => (svl (vA, p.consts.length, vK)).ownBlock = some b) W W1) (hr : Kd.R kQC 39 W1 0 (New (fun b => (svl (vA, p.consts.length, vK)).ownBlock = some b) W W1) (.slice A2 n2 c2) (p.consts ++ [c]))
    (hcw : CWf c) (h1 : rightB p.consts c = true) (h3 : p.consts.length < 512) :
    GSt w (W1.setCell ⟨bq, 0, none⟩ (.slice A2 n2 c2)) lo bq bc A2 uA c2 uK ⟨p.consts ++ [c], p.funcs⟩ rs c := by
  have hn2 : n2 = p.consts.length + 1 := by
    have := (R_toC (v := (A2, n2, c2)) hr).1
    rw [List.length_append, List.length_singleton] at this
    exact this.symm
  have hown := h.own.addC (v' := (A2, n2, c2)) h.ll hc hr
  have hb : ∀ g, (svl (vA, p.consts.length, vK)).ownBlock = some g → lo ≤ g := h.own.cs.2
  have hne : ¬ (svl (vA, p.consts.length, vK)).ownBlock = some bq := fun e => Oq.ne_blk h.own.cs h.q (by decide) e rfl
  have hq1 := hc.blk h.q hne
  have hs : Chg (fun b => b = bq) W1 (W1.setCell ⟨bq, 0, none⟩ (.slice A2 n2 c2)) := (Chg.refl (fun b => b = bq) W1).setCell (p := ⟨bq, 0, none⟩) (fun _ => rfl) _
  have hl2 : (p.consts ++ [c]).length = n2 := by rw [hn2, List.length_append, List.length_singleton]
  exact ⟨by simp only; rw [hl2]; exact hown.box hq1 (by decide), grow_const h.fit hcw h1 h3, wf_add h.wf hcw (by omega), (h.ch.trans hc (fun b hb' e => by have := hb b e; have := h.lw; omega)).trans hs (fun b hb' e => by have := h.lw; have := h.lq; omega), by simp only; rw [hl2]; exact blk_set hq1 0 _, hs.blk (hc.blk h.c (fun e => by have := hb _ e; have := h.lc; omega)) (by have := h.lc; have := h.lq; omega), h.lw, h.lc, h.lq, cell_chgY hs (by have := h.lq; show ¬ 0 = bq; omega) (cell_chgY hc (fun e => by have := hb _ e; change lo ≤ 0 at this; omega) h.e)⟩
def skipAt (l : List QH) (a n : Nat) : List QH := (l.take n).eraseIdx a
theorem skip_in {l : List QH} {a n : Nat} {x : QH} (h : l[n]? = some x) (hn : n ≠ a) : skipAt l a (n + 1) = skipAt l a n ++ [x] := by
  have hl := (List.getElem?_eq_some_iff.1 h).1
  unfold skipAt
  rw [List.take_add_one, h]
  simp only [Option.toList_some]
  rcases Nat.lt_or_ge a n with h1 | h1
  · rw [List.eraseIdx_append_of_lt_length (by rw [List.length_take]; omega)]
  · rw [List.eraseIdx_of_length_le (by rw [List.length_append, List.length_take, List.length_singleton]; omega), List.eraseIdx_of_length_le (by rw [List.length_take]; omega)]
theorem skip_out {l : List QH} {a : Nat} (h : a < l.length) : skipAt l a (a + 1) = skipAt l a a := by
  unfold skipAt
  rw [List.take_add_one, List.getElem?_eq_getElem h]
  simp only [Option.toList_some]
  have e1 : (l.take a ++ [l[a]]).eraseIdx a = l.take a := by
    rw [List.eraseIdx_append_of_length_le (by rw [List.length_take]; omega)]
    simp [Nat.min_eq_left (Nat.le_of_lt h)]
  have e2 : (l.take a).eraseIdx a = l.take a := List.eraseIdx_of_length_le (by rw [List.length_take]; omega)
  rw [e1, e2]
theorem skip_mem {l : List QH} {a n : Nat} : ∀ x ∈ skipAt l a n, x ∈ l := fun x hx => List.mem_of_mem_take (List.mem_of_mem_eraseIdx hx)
theorem skip_len {l : List QH} {a n : Nat} : (skipAt l a n).length ≤ l.length := by
  unfold skipAt
  have h1 := List.length_eraseIdx_le (l.take n) a
  have h2 : (l.take n).length ≤ l.length := by rw [List.length_take]; omega
  omega
end Go.Proofs.YtgaackedappmgaaDoor.K
