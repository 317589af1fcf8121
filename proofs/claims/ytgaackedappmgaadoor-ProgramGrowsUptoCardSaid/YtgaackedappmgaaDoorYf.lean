import Derived.Test.YtgaackedappmgaaDoorYd
import Derived.IntWalk
import Derived.BigQuiet
namespace Go.Proofs.YtgaackedappmgaaDoor.K
open Go.RowKit Go.Proofs.YtgaackedappmgaaDoorW.PrintWords Go.Proofs.YtgaackedappmgaaDoorW.PrintLast Go.Proofs.YtgaackedappmgaaDoorW.PrintMore
set_option linter.unusedVariables false
set_option linter.unusedSimpArgs false
set_option maxRecDepth 100000
theorem ba_beqQ' (a b : ByteArray) : (a.toList == b.toList) = decide (a = b) := ba_beqY a b
theorem nameBad_hit {s : ByteArray} {n : Nat} (h : n < s.size) (hl : letterB ((s[n]'h).toNat : Int) = false) : nameBad s = true := by
  unfold nameBad
  refine List.any_eq_true.2 ⟨s[n]'h, ?_, by rw [hl]; rfl⟩
  show s.data[n] ∈ s.data.toList
  simp
theorem nameBad_none {s : ByteArray} (h : ∀ (n : Nat) (h : n < s.size), letterB ((s[n]'h).toNat : Int) = true) : nameBad s = false := by
  unfold nameBad
  rw [List.any_eq_false]
  intro b hb
  obtain ⟨n, hn, he⟩ := List.getElem_of_mem hb
  have h1 : n < s.size := by simpa using hn
  have := h n h1
  have e : s[n]'h1 = b := by rw [← he]; rfl
  rw [e] at this
  simp [this]
set_option maxHeartbeats 4000000
theorem ref_head (w : World) (cA fA : Option Addr) (nc cc fc : Nat) (p : QP) (rs : List QR) (k : Nat) (f : QF) (hV : PV w cA fA p rs) (hf : p.funcs[k]? = some f) (hn : p.funcs.length ≤ 1048576) (hz : f.name.size ≤ 140737488351232) :
    Calls Tryd.prog 36 #[.agg #[.slice cA nc cc, .slice fA p.funcs.length fc], .int .i64 k] w fun e w' => e = .returned (.tuple #[.int .i64 (headP p k f).1, .int .i64 (headP p k f).2]) ∧ Chg (fun _ => False) w w' := by
  obtain ⟨hk, _⟩ := List.getElem?_eq_some_iff.1 hf
  have hVA := Aside0.mk hV
  have hk0 : (0 : Int) ≤ k := by omega
  have hk1 : (k : Int) < p.funcs.length := by omega
  go_enter Tryd.func36, Tryd.ntmps36
  go_upto_region 1 with (fail)
  (try simp only [Act.put, List.setIfInBounds_toArray, List.set_cons_zero, List.set_cons_succ])
  generalize hW : World.alloc w _ = W0
  have B1 : Aside0 (W0.heap[w.heap.size]? = some (.cells #[.slice cA nc cc, .slice fA p.funcs.length fc] 25)) := ⟨by rw [← hW]; exact heap_alloc_new w _⟩
  have hz0 : Aside0 (Chg (fun _ => False) w W0) := ⟨by rw [← hW]; exact cg⟩
  clear hW
  obtain ⟨fd, ⟨nm, pa, lo, ⟨kA, kN, kC⟩, ⟨hA, hN, hC⟩⟩, e1, e2, x0, x1, x2, x3, x4⟩ := raw_at (hV.below (hz0.out.below (fun _ _ h => h))).fs k hk
  obtain ⟨r1, r2, r3, r4, r5⟩ := hV.raw k _ f e2 hf
  have r6 := r4.1
  have r7 := r5.1
  simp only at r1 r2 r3 r6 r7 x0 x1 x2 x3 x4
  subst e1 r1 r2 r3 r6 r7
  have hfA := Aside0.mk hf
  have p1 : W0.cell? ⟨w.heap.size, 1, none⟩ = some (.slice (some fd) p.funcs.length fc) := blk_cell B1.out 1
  clear hV hf r4 r5 e2
  go_upto_region 2 with (fail)
  (try simp only [Act.put, List.setIfInBounds_toArray, List.set_cons_zero, List.set_cons_succ])
  generalize hW : World.alloc W0 _ = W1
  have B2 : Aside0 (W1.heap[W0.heap.size]? = some (.cells #[.string f.name, .int .i64 f.pars, .int .i64 f.locs, .slice kA f.code.length kC, .slice hA f.hnd.length hC] 47)) := ⟨by rw [← hW]; exact heap_alloc_new W0 _⟩
  have hz9 : Aside0 (Chg (fun _ => False) W0 W1) := ⟨by rw [← hW]; exact cg⟩
  clear hW
  clear x0 x1 x2 x3 x4 p1
  replace B1 := Aside0.mk (hz9.out.blk B1.out (fun h => h))
  replace hz0 := Aside0.mk (hz0.out.trans hz9.out (fun _ _ h => h))
  clear hz9
  (try go_wp2)
  go_loopw [7] (fun i7 wr => ∃ n : Nat, i7 = .int .i64 n ∧ n ≤ f.name.size ∧ Aside0 (∀ (j : Nat) (h : j < f.name.size), j < n → letterB ((f.name[j]'h).toNat : Int) = true) ∧ Aside0 (Chg (fun _ => False) W1 wr)) (fun i7 _ => f.name.size - (intOf i7).toNat)
  case atStart => exact ⟨0, rfl, by omega, ⟨fun j h hj => by omega⟩, ⟨Chg.refl _ _⟩⟩
  case round =>
    obtain ⟨n, rfl, hnn, hN, hCh⟩ := hrel
    have hz1 : Aside0 (Chg (fun _ => False) w wr) := ⟨hz0.out.trans hCh.out (fun _ _ h => h)⟩
    replace B1 := Aside0.mk (hCh.out.blk B1.out (fun h => h))
    replace B2 := Aside0.mk (hCh.out.blk B2.out (fun h => h))
    have q0 : wr.cell? ⟨W0.heap.size, 0, none⟩ = some (.string f.name) := blk_cell B2.out 0
    by_cases hlt : n < f.name.size
    · have hn0 : (0 : Int) ≤ n := by omega
      have hn1 : (n : Int) < f.name.size := by omega
      cases hl : letterB ((f.name[n]'hlt).toNat : Int) with
      | true =>
        have hcall : Aside0 (∀ W, Calls Tryd.prog 34 #[.int .u8 ((f.name[n]'hlt).toNat : Int)] W fun e w' => e = .returned (.bool true) ∧ w' = W) := ⟨fun W => by rw [← hl]; exact ref_letter W _⟩
        have hN2 : Aside0 (∀ (j : Nat) (h : j < f.name.size), j < n + 1 → letterB ((f.name[j]'h).toNat : Int) = true) := ⟨fun j h hj => by
          rcases Nat.lt_or_ge j n with h1 | h1
          · exact hN.out j h h1
          · obtain rfl : j = n := by omega
            exact hl⟩
        clear hl
        go_wp2_with (go_at_call 34; go_must (refine (hcall.out _).mono ?_); go_must (rintro e w1 ⟨rfl, hw1⟩); go_must (subst w1))
        go_roundw
        case measure => first | (simp [intOf]; done) | (simp [intOf]; omega)
        case rel => exact ⟨n + 1, by go_num, by omega, hN2, hCh⟩
      | false =>
        have hcall : Aside0 (∀ W, Calls Tryd.prog 34 #[.int .u8 ((f.name[n]'hlt).toNat : Int)] W fun e w' => e = .returned (.bool false) ∧ w' = W) := ⟨fun W => by rw [← hl]; exact ref_letter W _⟩
        have he : Aside0 (headP p k f = (0, 6)) := ⟨by unfold headP; rw [if_pos (nameBad_hit hlt hl)]⟩
        clear hl
        go_wp2_with (go_at_call 34; go_must (refine (hcall.out _).mono ?_); go_must (rintro e w1 ⟨rfl, hw1⟩); go_must (subst w1))
        go_ret2
        exact ⟨by first | (rw [he.out]; done) | (rw [he.out]; rfl) | (simp [he.out]; done), hz1.out⟩
    · have hB : Aside0 (nameBad f.name = false) := ⟨nameBad_none (fun j h => hN.out j h (by omega))⟩
      obtain rfl : n = f.name.size := by omega
      have hn1 : ¬ ((f.name.size : Int) < f.name.size) := by omega
      clear hlt
      by_cases hz2 : f.name.size = 0
      · have hte : f.name.toList = [] := by rw [ByteArray.toList_eq]; exact List.eq_nil_of_length_eq_zero (by simpa using hz2)
        have he : Aside0 (headP p k f = (0, 6)) := ⟨by unfold headP; rw [if_neg (by rw [hB.out]; decide), if_pos hz2]⟩
        clear hz2
        go_wp2
        go_ret2
        exact ⟨by first | (rw [he.out]; done) | (rw [he.out]; rfl) | (simp [he.out]; done), hz1.out⟩
      have hte : f.name.toList.isEmpty = false := by
        cases h : f.name.toList with
        | nil => exact absurd (by rw [ByteArray.toList_eq] at h; simpa using congrArg List.length h) hz2
        | cons a l => rfl
      have hz2A := Aside0.mk hz2
      clear hz2
      by_cases hz3 : 32 < f.name.size
      · have he : Aside0 (headP p k f = (0, 5)) := ⟨by unfold headP; rw [if_neg (by rw [hB.out]; decide), if_neg hz2A.out, if_pos hz3]⟩
        have hz4 : (32 : Int) < f.name.size := by omega
        clear hz3
        go_wp2
        go_ret2
        exact ⟨by first | (rw [he.out]; done) | (rw [he.out]; rfl) | (simp [he.out]; done), hz1.out⟩
      have hz4 : ¬ (32 : Int) < f.name.size := by omega
      have hz3A := Aside0.mk hz3
      clear hz3
      go_wp2
      clear hz4 hte q0
      obtain ⟨wo, hwo⟩ : ∃ wo : World, wo = wr := ⟨wr, rfl⟩
      subst hwo
      go_loopw [8] (fun i8 wr => ∃ j : Nat, i8 = .int .i64 j ∧ j ≤ k ∧ Aside0 (∀ (m : Nat) (g : QF), m < j → p.funcs[m]? = some g → g.name ≠ f.name) ∧ Aside0 (Chg (fun _ => False) wo wr)) (fun i8 _ => k - (intOf i8).toNat)
      case atStart => exact ⟨0, rfl, by omega, ⟨fun m g hm => by omega⟩, ⟨Chg.refl _ _⟩⟩
      case round =>
        obtain ⟨j, rfl, hj, hM, hCh2⟩ := hrel
        have hz5 : Aside0 (Chg (fun _ => False) w wr) := ⟨hz1.out.trans hCh2.out (fun _ _ h => h)⟩
        replace B1 := Aside0.mk (hCh2.out.blk B1.out (fun h => h))
        replace B2 := Aside0.mk (hCh2.out.blk B2.out (fun h => h))
        have q0 : wr.cell? ⟨W0.heap.size, 0, none⟩ = some (.string f.name) := blk_cell B2.out 0
        have q1 : wr.cell? ⟨W0.heap.size, 1, none⟩ = some (.int .i64 f.pars) := blk_cell B2.out 1
        have q2 : wr.cell? ⟨W0.heap.size, 2, none⟩ = some (.int .i64 f.locs) := blk_cell B2.out 2
        have q3 : wr.cell? ⟨W0.heap.size, 3, none⟩ = some (.slice kA f.code.length kC) := blk_cell B2.out 3
        have q4 : wr.cell? ⟨W0.heap.size, 4, none⟩ = some (.slice hA f.hnd.length hC) := blk_cell B2.out 4
        by_cases hlt : j < k
        · have hj0 : (0 : Int) ≤ j := by omega
          have hj1 : (j : Int) < k := by omega
          have hj2 : (j : Int) < p.funcs.length := by omega
          have p1 : wr.cell? ⟨w.heap.size, 1, none⟩ = some (.slice (some fd) p.funcs.length fc) := blk_cell B1.out 1
          obtain ⟨_, r, e1, e2, x0, x1, x2, x3, x4⟩ := raw_at (C_chg (Aside0.mk hVA.out.fs).out (hz5.out.below (fun _ _ h => h))) j (by omega)
          injection e1 with e1
          subst e1
          have hr := (hVA.out.raw j r _ e2 (List.getElem?_eq_getElem (by omega))).1
          have hgA : Aside0 (∃ g, p.funcs[j]? = some g ∧ g.name = r.name) := ⟨_, List.getElem?_eq_getElem (by omega), hr.symm⟩
          clear e2 hr x1 x2 x3 x4
          by_cases hhit : r.name = f.name
          · have he : Aside0 (headP p k f = (0, 15)) := ⟨by
              unfold headP
              rw [if_neg (by rw [hB.out]; decide), if_neg hz2A.out, if_neg hz3A.out, if_pos]
              obtain ⟨g, hg, hgn⟩ := hgA.out
              refine List.any_eq_true.2 ⟨g, List.mem_of_getElem? (i := j) (by rw [List.getElem?_take_of_lt hlt]; exact hg), ?_⟩
              simp [hgn, hhit]⟩
            rw [hhit] at x0
            clear hhit
            go_upto_region 14 with (fail)
            (try simp only [Act.put, List.setIfInBounds_toArray, List.set_cons_zero, List.set_cons_succ])
            go_quiet (fail)
            go_wp2
            go_ret2
            exact ⟨by first | (rw [he.out]; done) | (rw [he.out]; rfl) | (simp [he.out]; done), cg⟩
          · have hne : (r.name.toList == f.name.toList) = false := by rw [ba_beqQ']; simpa using hhit
            have hM2 : Aside0 (∀ (m : Nat) (g : QF), m < j + 1 → p.funcs[m]? = some g → g.name ≠ f.name) := ⟨fun m g hm hg => by
              rcases Nat.lt_or_ge m j with h1 | h1
              · exact hM.out m g h1 hg
              · obtain rfl : m = j := by omega
                obtain ⟨g2, hg2, hgn⟩ := hgA.out
                rw [hg2] at hg
                injection hg with hg
                rw [← hg, hgn]
                exact hhit⟩
            clear hhit
            go_upto_region 14 with (fail)
            (try simp only [Act.put, List.setIfInBounds_toArray, List.set_cons_zero, List.set_cons_succ])
            go_quiet (fail)
            go_wp2
            go_roundw
            case measure => first | (simp [intOf]; done) | (simp [intOf]; omega)
            case rel => exact ⟨j + 1, by go_num, by omega, hM2, ⟨cg⟩⟩
        · obtain rfl : j = k := by omega
          have hj1 : ¬ (j : Int) < j := by omega
          have hAny : Aside0 ((p.funcs.take j).any (fun g => decide (g.name = f.name)) = false) := ⟨by
            rw [List.any_eq_false]
            intro g hg
            obtain ⟨m, hm, he⟩ := List.getElem_of_mem hg
            rw [List.length_take] at hm
            rw [List.getElem_take] at he
            simpa using hM.out m g (by omega) (by rw [List.getElem?_eq_getElem (by omega), he])⟩
          have hP : Aside0 (headP p j f = if f.pars < 0 ∨ f.locs < f.pars ∨ (j = 0 ∧ f.pars ≠ 0) then (0, 1) else if 64 < f.locs then (0, 5) else if f.code.length = 0 then (0, 2) else if 2000 < f.code.length then (2000, 5) else (0, 0)) := ⟨by
            unfold headP
            rw [if_neg (by rw [hB.out]; decide), if_neg hz2A.out, if_neg hz3A.out, if_neg (by rw [hAny.out]; decide)]⟩
          clear hlt
          by_cases a1 : f.pars < 0
          · have he : Aside0 (headP p j f = (0, 1)) := ⟨by rw [hP.out, if_pos (Or.inl a1)]⟩
            go_wp2
            go_ret2
            exact ⟨by first | (rw [he.out]; done) | (rw [he.out]; rfl) | (simp [he.out]; done), hz5.out⟩
          by_cases a2 : f.locs < f.pars
          · have he : Aside0 (headP p j f = (0, 1)) := ⟨by rw [hP.out, if_pos (Or.inr (Or.inl a2))]⟩
            go_wp2
            go_ret2
            exact ⟨by first | (rw [he.out]; done) | (rw [he.out]; rfl) | (simp [he.out]; done), hz5.out⟩
          by_cases a3 : j = 0 ∧ f.pars ≠ 0
          · have he : Aside0 (headP p j f = (0, 1)) := ⟨by rw [hP.out, if_pos (Or.inr (Or.inr a3))]⟩
            obtain ⟨b1, b2⟩ := a3
            have b3 : ((j : Int) == 0) = true := by simpa using b1
            have b4 : (f.pars != 0) = true := by simpa using b2
            have he0 : Aside0 (headP p 0 f = (0, 1)) := ⟨by have := he.out; rw [b1] at this; exact this⟩
            clear b2
            go_wp2
            go_ret2
            exact ⟨by first | (rw [he.out]; done) | (rw [he.out]; rfl) | (simp [he.out]; done) | (simp [he0.out]; done), hz5.out⟩
          have hP2 : Aside0 (headP p j f = if 64 < f.locs then (0, 5) else if f.code.length = 0 then (0, 2) else if 2000 < f.code.length then (2000, 5) else (0, 0)) := ⟨by rw [hP.out, if_neg (by rintro (h | h | h); exact a1 h; exact a2 h; exact a3 h)]⟩
          by_cases b1 : j = 0
          · have b2 : f.pars = 0 := by
              apply Classical.byContradiction
              exact fun h => a3 ⟨b1, h⟩
            have b3 : ((j : Int) == 0) = true := by simpa using b1
            have b4 : (f.pars != 0) = false := by simpa using b2
            clear a3
            by_cases a4 : 64 < f.locs
            · have he : Aside0 (headP p j f = (0, 5)) := ⟨by rw [hP2.out, if_pos a4]⟩
              have he0 := fun (e : j = 0) => congrArg (fun n => headP p n f) e
              replace he0 := Aside0.mk he0
              go_wp2
              go_ret2
              exact ⟨by first | (rw [he.out]; done) | (rw [he.out]; rfl) | (simp [he.out]; done) | (have e9 := he.out; rw [he0.out (by first | assumption | simpa using b3)] at e9; simp [e9]; done), hz5.out⟩
            by_cases a5 : f.code.length = 0
            · have he : Aside0 (headP p j f = (0, 2)) := ⟨by rw [hP2.out, if_neg a4, if_pos a5]⟩
              have a6 : ((f.code.length : Int) == 0) = true := by simpa using a5
              have he0 := fun (e : j = 0) => congrArg (fun n => headP p n f) e
              replace he0 := Aside0.mk he0
              go_wp2
              go_ret2
              exact ⟨by first | (rw [he.out]; done) | (rw [he.out]; rfl) | (simp [he.out]; done) | (have e9 := he.out; rw [he0.out (by first | assumption | simpa using b3)] at e9; simp [e9]; done), hz5.out⟩
            have a6 : ((f.code.length : Int) == 0) = false := by simpa using a5
            by_cases a7 : 2000 < f.code.length
            · have he : Aside0 (headP p j f = (2000, 5)) := ⟨by rw [hP2.out, if_neg a4, if_neg a5, if_pos a7]⟩
              have a8 : (2000 : Int) < f.code.length := by omega
              have he0 := fun (e : j = 0) => congrArg (fun n => headP p n f) e
              replace he0 := Aside0.mk he0
              go_wp2
              go_ret2
              exact ⟨by first | (rw [he.out]; done) | (rw [he.out]; rfl) | (simp [he.out]; done) | (have e9 := he.out; rw [he0.out (by first | assumption | simpa using b3)] at e9; simp [e9]; done), hz5.out⟩
            have he : Aside0 (headP p j f = (0, 0)) := ⟨by rw [hP2.out, if_neg a4, if_neg a5, if_neg a7]⟩
            have a8 : ¬ (2000 : Int) < f.code.length := by omega
            have he0 := fun (e : j = 0) => congrArg (fun n => headP p n f) e
            replace he0 := Aside0.mk he0
            go_wp2
            go_ret2
            exact ⟨by first | (rw [he.out]; done) | (rw [he.out]; rfl) | (simp [he.out]; done) | (have e9 := he.out; rw [he0.out (by first | assumption | simpa using b3)] at e9; simp [e9]; done), hz5.out⟩
          have b3 : ((j : Int) == 0) = false := by simpa using b1
          clear a3
          by_cases a4 : 64 < f.locs
          · have he : Aside0 (headP p j f = (0, 5)) := ⟨by rw [hP2.out, if_pos a4]⟩
            have he0 := fun (e : j = 0) => congrArg (fun n => headP p n f) e
            replace he0 := Aside0.mk he0
            go_wp2
            go_ret2
            exact ⟨by first | (rw [he.out]; done) | (rw [he.out]; rfl) | (simp [he.out]; done) | (have e9 := he.out; rw [he0.out (by first | assumption | simpa using b3)] at e9; simp [e9]; done), hz5.out⟩
          by_cases a5 : f.code.length = 0
          · have he : Aside0 (headP p j f = (0, 2)) := ⟨by rw [hP2.out, if_neg a4, if_pos a5]⟩
            have a6 : ((f.code.length : Int) == 0) = true := by simpa using a5
            have he0 := fun (e : j = 0) => congrArg (fun n => headP p n f) e
            replace he0 := Aside0.mk he0
            go_wp2
            go_ret2
            exact ⟨by first | (rw [he.out]; done) | (rw [he.out]; rfl) | (simp [he.out]; done) | (have e9 := he.out; rw [he0.out (by first | assumption | simpa using b3)] at e9; simp [e9]; done), hz5.out⟩
          have a6 : ((f.code.length : Int) == 0) = false := by simpa using a5
          by_cases a7 : 2000 < f.code.length
          · have he : Aside0 (headP p j f = (2000, 5)) := ⟨by rw [hP2.out, if_neg a4, if_neg a5, if_pos a7]⟩
            have a8 : (2000 : Int) < f.code.length := by omega
            have he0 := fun (e : j = 0) => congrArg (fun n => headP p n f) e
            replace he0 := Aside0.mk he0
            go_wp2
            go_ret2
            exact ⟨by first | (rw [he.out]; done) | (rw [he.out]; rfl) | (simp [he.out]; done) | (have e9 := he.out; rw [he0.out (by first | assumption | simpa using b3)] at e9; simp [e9]; done), hz5.out⟩
          have he : Aside0 (headP p j f = (0, 0)) := ⟨by rw [hP2.out, if_neg a4, if_neg a5, if_neg a7]⟩
          have a8 : ¬ (2000 : Int) < f.code.length := by omega
          have he0 := fun (e : j = 0) => congrArg (fun n => headP p n f) e
          replace he0 := Aside0.mk he0
          go_wp2
          go_ret2
          exact ⟨by first | (rw [he.out]; done) | (rw [he.out]; rfl) | (simp [he.out]; done) | (have e9 := he.out; rw [he0.out (by first | assumption | simpa using b3)] at e9; simp [e9]; done), hz5.out⟩
end Go.Proofs.YtgaackedappmgaaDoor.K
