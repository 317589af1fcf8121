import Derived.Test.YtgaackedappmgaaDoorYl
import Derived.IntWalk
import Derived.BigQuiet
import Derived.Maps.OwnSet
namespace Go.Proofs.YtgaackedappmgaaDoor.K
open Go.Maps Go.RowKit Go.Proofs.YtgaackedappmgaaDoorW.PrintWords Go.Proofs.YtgaackedappmgaaDoorW.PrintLast Go.Proofs.YtgaackedappmgaaDoorW.PrintMore
set_option linter.unusedVariables false
set_option linter.unusedSimpArgs false
set_option maxRecDepth 100000
theorem fn_none {z : Int × Int} {e : Ending} {w' : World} (hz : z.2 = 0) (h : (z.2 = 0 ∧ e = .returned .nilIface) ∨ (z.2 ≠ 0 ∧ ∃ b, e = .returned (.iface 80 (.pointer (some ⟨b, 0, none⟩))) ∧ w'.heap[b]? = some (.cells #[.int .i64 z.1, .int .i64 z.2] 87))) : e = .returned .nilIface := by
  rcases h with h | h
  · exact h.2
  · exact absurd hz h.1
theorem fn_some {z : Int × Int} {e : Ending} {w' : World} (hz : z.2 ≠ 0) (h : (z.2 = 0 ∧ e = .returned .nilIface) ∨ (z.2 ≠ 0 ∧ ∃ b, e = .returned (.iface 80 (.pointer (some ⟨b, 0, none⟩))) ∧ w'.heap[b]? = some (.cells #[.int .i64 z.1, .int .i64 z.2] 87))) : ∃ b, e = .returned (.iface 80 (.pointer (some ⟨b, 0, none⟩))) ∧ w'.heap[b]? = some (.cells #[.int .i64 z.1, .int .i64 z.2] 87) := by
  rcases h with h | h
  · exact absurd h.1 hz
  · exact h.2
def PgPost (w : World) (z : (Int × Int) × Int) (e : Ending) (w' : World) : Prop := Chg (fun _ => False) w w' ∧ ((z.2 = 0 ∧ e = .returned .nilIface) ∨ (z.2 ≠ 0 ∧ ∃ b g, e = .returned (.iface 79 (.pointer (some ⟨g, 0, none⟩))) ∧ w'.heap[g]? = some (.cells #[.int .i64 z.1.1, .iface 80 (.pointer (some ⟨b, 0, none⟩))] 85) ∧ w'.heap[b]? = some (.cells #[.int .i64 z.1.2, .int .i64 z.2] 87)))
theorem heap_in {w : World} {b : Nat} {o : Obj} (h : w.heap[b]? = some o) (x : Obj) : (w.alloc x).heap[b]? = some o := ((Chg.refl (fun _ => False) w).alloc x).blk h (fun h => h)
def IsK (b : Bool) (l : List Lit) (k : Lit) : Prop := b = true ↔ k ∈ l
structure PWf (p : QP) : Prop where
  sm : PSm p
  cs : ∀ c ∈ p.consts, CWf c
theorem check_consts (p : QP) : checkP chkP p = if (constsE p.consts).2 ≠ 0 then ((-1, (constsE p.consts).1), (constsE p.consts).2) else if p.funcs.length = 0 then ((0, 0), 2) else if 128 < p.funcs.length then ((128, 0), 5) else funcsP chkP p 0 p.funcs := by
  unfold checkP constsE
  by_cases h : 512 < p.consts.length
  · rw [if_pos h, if_pos h, if_pos (by decide)]
  · rw [if_neg h, if_neg h]
    cases hf : firstBad (constP p.consts) 0 p.consts with
    | none => simp
    | some z =>
      obtain ⟨i, e⟩ := z
      have : e ≠ 0 := by
        have hq : ∀ (l : List QC) (j i : Nat) (e : Int), firstBad (constP p.consts) j l = some (i, e) → e ≠ 0 := by
          intro l
          induction l with
          | nil => intro j i e h; cases h
          | cons x xs ih =>
            intro j i e h
            rw [firstBad] at h
            by_cases hx : constP p.consts j x ≠ 0
            · rw [if_pos hx] at h
              injection h with h
              injection h with h1 h2
              rw [← h2]; exact hx
            · rw [if_neg hx] at h
              exact ih _ _ _ h
        exact hq _ _ _ _ hf
      simp [this]
set_option maxHeartbeats 40000000
theorem prog_check (w : World) (cA fA : Option Addr) (cc fc : Nat) (p : QP) (rs : List QR) (hV : PV w cA fA p rs) (hp : PWf p) :
    Calls Tryd.prog 28 #[.agg #[.slice cA p.consts.length cc, .slice fA p.funcs.length fc]] w (PgPost w (checkP chkP p)) := by
  have hVA := Aside0.mk hV
  have hS := Aside0.mk hp
  have hn1 := hp.sm.c
  have hn2 := hp.sm.f
  have hE := Aside0.mk (check_consts p)
  have hmm := @run_makeMap Tryd.prog
  clear hV hp
  go_enter Tryd.func28, Tryd.ntmps28
  go_upto_region 1 with (fail)
  (try simp only [Act.put, List.setIfInBounds_toArray, List.set_cons_zero, List.set_cons_succ])
  generalize hW : World.alloc w _ = W0
  have B1 : Aside0 (W0.heap[w.heap.size]? = some (.cells #[.slice cA p.consts.length cc, .slice fA p.funcs.length fc] 25)) := ⟨by rw [← hW]; exact heap_alloc_new w _⟩
  have hz0 : Aside0 (Chg (fun _ => False) w W0) := ⟨by rw [← hW]; exact cg⟩
  clear hW
  have p0 : W0.cell? ⟨w.heap.size, 0, none⟩ = some (.slice cA p.consts.length cc) := blk_cell B1.out 0
  have hcon : Aside0 (Calls Tryd.prog 42 #[.slice cA p.consts.length cc] W0 (FnPost W0 (constsE p.consts))) := ⟨prog_checkConsts W0 cA cc p.consts (hVA.out.below (hz0.out.below (fun _ _ h => h))).cs ⟨hn1, hS.out.cs⟩⟩
  rcases hq : constsE p.consts with ⟨z1, z2⟩
  rw [hq] at hE hcon
  clear hq
  by_cases hb : z2 ≠ 0
  · have hne : Aside0 (((z1, z2) : Int × Int).2 ≠ 0) := ⟨hb⟩
    have he : Aside0 (checkP chkP p = ((-1, z1), z2)) := ⟨by rw [hE.out, if_pos hb]⟩
    have hbA := Aside0.mk hb
    clear hb hE hmm
    go_wp2_with (first | (go_at_call 42; go_must (refine (hcon.out).mono ?_); go_must (intro e w2 hp); go_must (obtain ⟨hc2, hp⟩ := hp); go_must (replace hc2 := Aside0.mk hc2); go_must (obtain ⟨b, rfl, hbk⟩ := fn_some hne.out hp); go_must (replace hbk := Aside0.mk hbk)) | (go_at_call 41; go_must (refine (prog_in _ _ _ _).mono ?_); go_must (rintro e w8 ⟨rfl, hw8⟩); go_must (subst w8)))
    go_ret
    exact ⟨cg, Or.inr ⟨by rw [he.out]; exact hbA.out, _, _, rfl, by rw [he.out]; exact heap_alloc_new _ _, by rw [he.out]; exact heap_in hbk.out _⟩⟩
  replace hb : z2 = 0 := Classical.not_not.1 hb
  subst hb
  replace hE : Aside0 (checkP chkP p = if p.funcs.length = 0 then ((0, 0), 2) else if 128 < p.funcs.length then ((128, 0), 5) else funcsP chkP p 0 p.funcs) := ⟨by rw [hE.out, if_neg (by simp)]⟩
  go_upto_region 4 with (first | (go_at_call 42; go_must (refine (hcon.out).mono ?_); go_must (intro e w2 hp); go_must (obtain ⟨hc2, hp⟩ := hp); go_must (replace hc2 := Aside0.mk hc2); go_must (obtain rfl := fn_none rfl hp)) | (go_at_call 41; go_must (refine (prog_in0 _ _).mono ?_); go_must (rintro e w8 ⟨rfl, hw8⟩); go_must (subst w8)))
  (try simp only [Act.put, List.setIfInBounds_toArray, List.set_cons_zero, List.set_cons_succ])
  replace B1 := Aside0.mk (hc2.out.blk B1.out (fun h => h))
  replace hz0 := Aside0.mk (hz0.out.trans hc2.out (fun _ _ h => h))
  clear p0 hcon hc2 hp
  have p1 : w2.cell? ⟨w.heap.size, 1, none⟩ = some (.slice fA p.funcs.length fc) := blk_cell B1.out 1
  by_cases h0 : p.funcs.length = 0
  · have he : Aside0 (checkP chkP p = ((0, 0), 2)) := ⟨by rw [hE.out, if_pos h0]⟩
    have h0' : ((p.funcs.length : Int) == 0) = true := by simpa using h0
    clear h0 hmm
    go_wp2_with (first | (go_at_call 43; go_must (refine (prog_at _ _ _ (by decide)).mono ?_); go_must (rintro e w5 ⟨rfl, hw5⟩); go_must (subst w5)) | (go_at_call 41; go_must (refine (prog_in _ _ _ _).mono ?_); go_must (rintro e w8 ⟨rfl, hw8⟩); go_must (subst w8)))
    go_ret
    exact ⟨cg, Or.inr ⟨by rw [he.out]; decide, _, _, rfl, by rw [he.out]; exact heap_alloc2_new w2 _ _, by rw [he.out]; exact heap_in (heap_alloc_new w2 _) _⟩⟩
  have h0' : ((p.funcs.length : Int) == 0) = false := by simpa using h0
  by_cases h1 : 128 < p.funcs.length
  · have he : Aside0 (checkP chkP p = ((128, 0), 5)) := ⟨by rw [hE.out, if_neg h0, if_pos h1]⟩
    have h1' : (128 : Int) < p.funcs.length := by omega
    clear h0 h1 hmm
    go_wp2_with (first | (go_at_call 43; go_must (refine (prog_at _ _ _ (by decide)).mono ?_); go_must (rintro e w5 ⟨rfl, hw5⟩); go_must (subst w5)) | (go_at_call 41; go_must (refine (prog_in _ _ _ _).mono ?_); go_must (rintro e w8 ⟨rfl, hw8⟩); go_must (subst w8)))
    go_ret
    exact ⟨cg, Or.inr ⟨by rw [he.out]; decide, _, _, rfl, by rw [he.out]; exact heap_alloc2_new w2 _ _, by rw [he.out]; exact heap_in (heap_alloc_new w2 _) _⟩⟩
  have h1' : ¬ (128 : Int) < p.funcs.length := by omega
  replace hE : Aside0 (checkP chkP p = funcsP chkP p 0 p.funcs) := ⟨by rw [hE.out, if_neg h0, if_neg h1]⟩
  clear h0 h1
  go_upto_region 9 with (fail)
  (try simp only [Act.put, List.setIfInBounds_toArray, List.set_cons_zero, List.set_cons_succ])
  generalize hW : World.alloc w2 _ = W1
  have hM : Aside0 (MapK W1 9 w2.heap.size []) := ⟨MapK.made (by rw [← hW]; exact heap_alloc_new w2 _)⟩
  have hz9 : Aside0 (Chg (fun _ => False) w2 W1) := ⟨by rw [← hW]; exact cg⟩
  have hgt : w.heap.size < w2.heap.size := blk_lt B1.out
  replace B1 := Aside0.mk (hz9.out.blk B1.out (fun h => h))
  replace hz0 := Aside0.mk (hz0.out.trans hz9.out (fun _ _ h => h))
  clear hW hmm p1 hz9 h0' h1'
  have p1 : W1.cell? ⟨w.heap.size, 1, none⟩ = some (.slice fA p.funcs.length fc) := blk_cell B1.out 1
  go_wp2
  clear p1
  go_loopw [33] (fun i33 wr => ∃ i : Nat, i33 = .int .i64 i ∧ i ≤ p.funcs.length ∧ Aside0 (∀ (m : Nat) (f : QF), m < i → p.funcs[m]? = some f → (functionP chkP p m f).2 = 0) ∧ Aside0 (MapK wr 9 w2.heap.size ((p.funcs.take i).map (fun f => litS f.name))) ∧ Aside0 (wr.heap[w.heap.size]? = some (.cells #[.slice cA p.consts.length cc, .slice fA p.funcs.length fc] 25)) ∧ Aside0 (Chg (fun _ => False) w wr)) (fun i33 _ => p.funcs.length - (intOf i33).toNat)
  case atStart => exact ⟨0, rfl, by omega, ⟨fun m x hm => by omega⟩, hM, B1, hz0⟩
  case round =>
    obtain ⟨i, rfl, hi, hN, hM, B1, hz1⟩ := hrel
    by_cases hlt : i < p.funcs.length
    · have hi0 : (0 : Int) ≤ i := by omega
      have hi1 : (i : Int) < p.funcs.length := by omega
      obtain ⟨fd, ⟨nm, pa, lo, ⟨kA, kN, kC⟩, ⟨hA, hN', hC⟩⟩, e1, e2, x0, x1, x2, x3, x4⟩ := raw_at (hVA.out.below (hz1.out.below (fun _ _ h => h))).fs i hlt
      obtain ⟨f, hfx⟩ : ∃ f, p.funcs[i]? = some f := ⟨_, List.getElem?_eq_getElem hlt⟩
      obtain ⟨r1, r2, r3, r4, r5⟩ := (hVA.out.below (hz1.out.below (fun _ _ h => h))).raw i _ f e2 hfx
      have r6 := r4.1
      have r7 := r5.1
      simp only at r1 r2 r3 r6 r7 x0 x1 x2 x3 x4
      subst e1 r1 r2 r3 r6 r7
      have hfA := Aside0.mk hfx
      obtain ⟨s1, s2, s3⟩ := hS.out.sm.fs f (List.mem_of_getElem? hfx)
      have hF := Aside0.mk (function_rest p i f)
      have hsz : Aside0 (f.name.size ≤ maxLen) := ⟨by unfold maxLen; omega⟩
      have hnm : Aside0 (∀ W, Calls Tryd.prog 44 #[.string f.name] W fun e w' => e = .returned (.int .i64 (nameE f.name)) ∧ w' = W) := ⟨fun W => prog_checkName W f.name s1⟩
      have hmax : Aside0 (((p.funcs.take i).map (fun f => litS f.name)).length < maxLen) := ⟨by rw [List.length_map, List.length_take]; unfold maxLen; omega⟩
      have hwi : Aside0 ((Lit.int .i64 (i : Int)).wf = true) := ⟨WalkArith.wf_i64 (by omega)⟩
      have htk : Aside0 ((p.funcs.take (i + 1)).map (fun f => litS f.name) = (p.funcs.take i).map (fun f => litS f.name) ++ [litS f.name]) := ⟨by rw [List.take_add_one, hfx]; simp⟩
      have his : Aside0 (IsK ((p.funcs.take i).any (fun g => decide (g.name = f.name))) ((p.funcs.take i).map (fun f => litS f.name)) (litS f.name)) := ⟨litS_mem⟩
      generalize hdup : (p.funcs.take i).any (fun g => decide (g.name = f.name)) = dup at his hF
      have hbd : Aside0 (∀ z, functionP chkP p i f = z → z.2 ≠ 0 → checkP chkP p = (((i : Int), z.1), z.2)) := ⟨fun z hz h0 => by
        have h1 := funcs_at (p := p) (i := 0) hfx (fun m y hm hy => by rw [Nat.zero_add]; exact hN.out m y hm hy) (by rw [Nat.zero_add, hz]; exact h0)
        rw [Nat.zero_add, hz] at h1
        rw [hE.out, h1]⟩
      have hN2 : Aside0 ((functionP chkP p i f).2 = 0 → ∀ (m : Nat) (g : QF), m < i + 1 → p.funcs[m]? = some g → (functionP chkP p m g).2 = 0) := ⟨fun h m x hm hx => by
        rcases Nat.lt_or_ge m i with h1 | h1
        · exact hN.out m x h1 hx
        · obtain rfl : m = i := by omega
          rw [hfx] at hx
          injection hx with hx
          rw [← hx, h]⟩
      clear e2 hdup r4 r5 hfx
      go_upto_region 12 with (fail)
      (try simp only [Act.put, List.setIfInBounds_toArray, List.set_cons_zero, List.set_cons_succ])
      generalize hW : World.alloc wr _ = W2
      have B2 : Aside0 (W2.heap[wr.heap.size]? = some (.cells #[.string f.name, .int .i64 f.pars, .int .i64 f.locs, .slice kA f.code.length kC, .slice hA f.hnd.length hC] 47)) := ⟨by rw [← hW]; exact heap_alloc_new wr _⟩
      have hz9 : Aside0 (Chg (fun _ => False) wr W2) := ⟨by rw [← hW]; exact cg⟩
      clear hW
      replace hM := Aside0.mk (hM.out.chg hz9.out (fun h => h))
      replace hz1 := Aside0.mk (hz1.out.trans hz9.out (fun _ _ h => h))
      replace B1 := Aside0.mk (hz9.out.blk B1.out (fun h => h))
      clear x0 x1 x2 x3 x4 hz9
      have c0 : W2.cell? ⟨wr.heap.size, 0, none⟩ = some (.string f.name) := blk_cell B2.out 0
      by_cases hne0 : nameE f.name ≠ 0
      · have he : Aside0 (checkP chkP p = (((i : Int), 0), nameE f.name)) := ⟨hbd.out (0, nameE f.name) (by rw [hF.out, if_pos hne0]) hne0⟩
        have hneA := Aside0.mk hne0
        clear hne0 hbd hN2 hF hE
        generalize nameE f.name = z at hnm he hneA
        have hz' : (z == 0) = false := by simpa using hneA.out
        go_upto_region 13 with (first | (go_at_call 44; go_must (refine (hnm.out _).mono ?_); go_must (rintro e w7 ⟨rfl, hw7⟩); go_must (subst w7)) | (go_at_call 43; go_must (refine (prog_at _ _ _ hneA.out).mono ?_); go_must (rintro e w5 ⟨rfl, hw5⟩); go_must (subst w5)))
        (try simp only [Act.put, List.setIfInBounds_toArray, List.set_cons_zero, List.set_cons_succ])
        generalize hW : World.alloc W2 _ = W3
        have B3 : Aside0 (W3.heap[W2.heap.size]? = some (.cells #[.int .i64 0, .int .i64 z] 87)) := ⟨by rw [← hW]; exact heap_alloc_new W2 _⟩
        have hz8 : Aside0 (Chg (fun _ => False) W2 W3) := ⟨by rw [← hW]; exact cg⟩
        clear hW
        replace hz1 := Aside0.mk (hz1.out.trans hz8.out (fun _ _ h => h))
        replace c0 := cell_chg0 c0 hz8.out
        have hml := hM.out.lt
        replace hM := Aside0.mk (hM.out.chg hz8.out (fun h => h))
        clear hz8
        cases dup with
        | true =>
          go_wp2_with (first | (at_lookup; go_must (refine wpL_look _ rfl _ _ 91 rfl 9 keyedS Tryd.underlying91 _ _ rfl hM.out _ _ rfl (keyS hsz.out) true his.out ?_); go_must (intro c9)) | (at_mapUpdate; go_must (refine wpL_upd _ rfl _ _ _ 91 rfl 9 keyedS Tryd.underlying91 _ _ rfl hM.out hmax.out _ _ _ rfl rfl (keyS hsz.out) hwi.out ?_); go_must (intro w6 hM6 hgr6); go_must (replace hM6 := Aside0.mk hM6); go_must (replace hgr6 := Aside0.mk (chg_upd hgr6))) | (go_at_call 41; go_must (refine (prog_in _ _ _ _).mono ?_); go_must (rintro e w8 ⟨rfl, hw8⟩); go_must (subst w8)))
          go_ret
          exact ⟨(Chg.trans hz1.out hgr6.out (fun b hb h => by omega)).alloc _, Or.inr ⟨by rw [he.out]; exact hneA.out, _, _, rfl, by rw [he.out]; exact heap_alloc_new _ _, by rw [he.out]; exact heap_in (hgr6.out.blk B3.out (fun e => by omega)) _⟩⟩
        | false =>
          go_wp2_with (first | (at_lookup; go_must (refine wpL_look _ rfl _ _ 91 rfl 9 keyedS Tryd.underlying91 _ _ rfl hM.out _ _ rfl (keyS hsz.out) false his.out ?_); go_must (intro c9)) | (at_mapUpdate; go_must (refine wpL_upd _ rfl _ _ _ 91 rfl 9 keyedS Tryd.underlying91 _ _ rfl hM.out hmax.out _ _ _ rfl rfl (keyS hsz.out) hwi.out ?_); go_must (intro w6 hM6 hgr6); go_must (replace hM6 := Aside0.mk hM6); go_must (replace hgr6 := Aside0.mk (chg_upd hgr6))) | (go_at_call 41; go_must (refine (prog_in _ _ _ _).mono ?_); go_must (rintro e w8 ⟨rfl, hw8⟩); go_must (subst w8)))
          go_ret
          exact ⟨(Chg.trans hz1.out hgr6.out (fun b hb h => by omega)).alloc _, Or.inr ⟨by rw [he.out]; exact hneA.out, _, _, rfl, by rw [he.out]; exact heap_alloc_new _ _, by rw [he.out]; exact heap_in (hgr6.out.blk B3.out (fun e => by omega)) _⟩⟩
      · replace hne0 : nameE f.name = 0 := Classical.not_not.1 hne0
        rw [hne0] at hnm hF
        clear hne0
        cases dup with
        | true =>
          have he : Aside0 (checkP chkP p = (((i : Int), 0), 15)) := ⟨hbd.out (0, 15) (by rw [hF.out, if_neg (by decide), if_pos rfl]) (by decide)⟩
          clear hbd hN2 hF hE
          go_upto_region 14 with (first | (go_at_call 44; go_must (refine (hnm.out _).mono ?_); go_must (rintro e w7 ⟨rfl, hw7⟩); go_must (subst w7)) | (go_at_call 43; go_must (refine (prog_at0 _ _).mono ?_); go_must (rintro e w5 ⟨rfl, hw5⟩); go_must (subst w5)) | (at_lookup; go_must (refine wpL_look _ rfl _ _ 91 rfl 9 keyedS Tryd.underlying91 _ _ rfl hM.out _ _ rfl (keyS hsz.out) true his.out ?_); go_must (intro c9)))
          (try simp only [Act.put, List.setIfInBounds_toArray, List.set_cons_zero, List.set_cons_succ])
          go_upto_region 16 with (go_at_call 43; go_must (refine (prog_at _ _ _ (by decide)).mono ?_); go_must (rintro e w5 ⟨rfl, hw5⟩); go_must (subst w5))
          (try simp only [Act.put, List.setIfInBounds_toArray, List.set_cons_zero, List.set_cons_succ])
          generalize hW : World.alloc W2 _ = W3
          have B3 : Aside0 (W3.heap[W2.heap.size]? = some (.cells #[.int .i64 0, .int .i64 15] 87)) := ⟨by rw [← hW]; exact heap_alloc_new W2 _⟩
          have hz8 : Aside0 (Chg (fun _ => False) W2 W3) := ⟨by rw [← hW]; exact cg⟩
          clear hW
          replace hz1 := Aside0.mk (hz1.out.trans hz8.out (fun _ _ h => h))
          replace c0 := cell_chg0 c0 hz8.out
          have hml := hM.out.lt
          replace hM := Aside0.mk (hM.out.chg hz8.out (fun h => h))
          clear hz8
          go_wp2_with (first | (at_mapUpdate; go_must (refine wpL_upd _ rfl _ _ _ 91 rfl 9 keyedS Tryd.underlying91 _ _ rfl hM.out hmax.out _ _ _ rfl rfl (keyS hsz.out) hwi.out ?_); go_must (intro w6 hM6 hgr6); go_must (replace hM6 := Aside0.mk hM6); go_must (replace hgr6 := Aside0.mk (chg_upd hgr6))) | (go_at_call 41; go_must (refine (prog_in _ _ _ _).mono ?_); go_must (rintro e w8 ⟨rfl, hw8⟩); go_must (subst w8)))
          go_ret
          exact ⟨(Chg.trans hz1.out hgr6.out (fun b hb h => by omega)).alloc _, Or.inr ⟨by rw [he.out]; exact (by decide : (15 : Int) ≠ 0), _, _, rfl, by rw [he.out]; exact heap_alloc_new _ _, by rw [he.out]; exact heap_in (hgr6.out.blk B3.out (fun e => by omega)) _⟩⟩
        | false =>
          replace hF : Aside0 (functionP chkP p i f = restP p i f) := ⟨by rw [hF.out, if_neg (by decide), if_neg (by decide)]⟩
          go_upto_region 17 with (first | (go_at_call 44; go_must (refine (hnm.out _).mono ?_); go_must (rintro e w7 ⟨rfl, hw7⟩); go_must (subst w7)) | (go_at_call 43; go_must (refine (prog_at0 _ _).mono ?_); go_must (rintro e w5 ⟨rfl, hw5⟩); go_must (subst w5)) | (at_lookup; go_must (refine wpL_look _ rfl _ _ 91 rfl 9 keyedS Tryd.underlying91 _ _ rfl hM.out _ _ rfl (keyS hsz.out) false his.out ?_); go_must (intro c9)) | (at_mapUpdate; go_must (refine wpL_upd _ rfl _ _ _ 91 rfl 9 keyedS Tryd.underlying91 _ _ rfl hM.out hmax.out _ _ _ rfl rfl (keyS hsz.out) hwi.out ?_); go_must (intro w6 hM6 hgr6); go_must (replace hM6 := Aside0.mk hM6); go_must (replace hgr6 := Aside0.mk (chg_upd hgr6))))
          (try simp only [Act.put, List.setIfInBounds_toArray, List.set_cons_zero, List.set_cons_succ])
          have h06 : Aside0 (Chg (fun _ => False) w w6) := ⟨Chg.trans hz1.out hgr6.out (fun b hb h => by omega)⟩
          replace B1 := Aside0.mk (hgr6.out.blk B1.out (fun e => by omega))
          clear hz1 hgr6 hM c0
          have p0 : w6.cell? ⟨w.heap.size, 0, none⟩ = some (.slice cA p.consts.length cc) := blk_cell B1.out 0
          have p1 : w6.cell? ⟨w.heap.size, 1, none⟩ = some (.slice (some fd) p.funcs.length fc) := blk_cell B1.out 1
          have hfn : Aside0 (Calls Tryd.prog 45 #[.agg #[.slice cA p.consts.length cc, .slice (some fd) p.funcs.length fc], .int .i64 i] w6 (FnPost w6 (restP p i f))) := ⟨prog_checkFunction w6 cA (some fd) cc fc p rs i f (hVA.out.below (h06.out.below (fun _ _ h => h))) hfA.out hn2 s2 s3⟩
          rcases hq : restP p i f with ⟨y1, y2⟩
          rw [hq] at hfn hF
          clear hq
          by_cases hy : y2 ≠ 0
          · have hne : Aside0 (((y1, y2) : Int × Int).2 ≠ 0) := ⟨hy⟩
            have he : Aside0 (checkP chkP p = (((i : Int), y1), y2)) := ⟨hbd.out _ hF.out hy⟩
            clear hbd hN2 hF hE hy
            go_wp2_with (first | (go_at_call 45; go_must (refine (hfn.out).mono ?_); go_must (intro e w2 hp); go_must (obtain ⟨hc2, hp⟩ := hp); go_must (replace hc2 := Aside0.mk hc2); go_must (obtain ⟨b, rfl, hbk⟩ := fn_some hne.out hp); go_must (replace hbk := Aside0.mk hbk)) | (go_at_call 41; go_must (refine (prog_in _ _ _ _).mono ?_); go_must (rintro e w8 ⟨rfl, hw8⟩); go_must (subst w8)))
            go_ret
            exact ⟨cg, Or.inr ⟨by rw [he.out]; exact hne.out, _, _, rfl, by rw [he.out]; exact heap_alloc_new _ _, by rw [he.out]; exact heap_in hbk.out _⟩⟩
          · replace hy : y2 = 0 := Classical.not_not.1 hy
            subst hy
            replace hN2 := Aside0.mk (hN2.out (by rw [hF.out]))
            clear hbd hF
            go_wp2_with (go_at_call 45; go_must (refine (hfn.out).mono ?_); go_must (intro e w2 hp); go_must (obtain ⟨hc2, hp⟩ := hp); go_must (replace hc2 := Aside0.mk hc2); go_must (obtain rfl := fn_none rfl hp))
            go_roundw
            case measure => first | (simp [intOf]; done) | (simp [intOf]; omega)
            case rel => exact ⟨i + 1, by go_num, by omega, hN2, ⟨by rw [htk.out]; exact hM6.out.chg hc2.out (fun h => h)⟩, ⟨hc2.out.blk B1.out (fun h => h)⟩, ⟨h06.out.trans hc2.out (fun _ _ h => h)⟩⟩
    · obtain rfl : i = p.funcs.length := by omega
      have hi1 : ¬ ((p.funcs.length : Int) < p.funcs.length) := by omega
      have he : Aside0 (checkP chkP p = ((0, 0), 0)) := ⟨by rw [hE.out, funcs_none (fun m x hx => by rw [Nat.zero_add]; exact hN.out m x (List.getElem?_eq_some_iff.1 hx).1 hx)]⟩
      go_wp2
      go_ret
      exact ⟨hz1.out, Or.inl ⟨by rw [he.out], rfl⟩⟩
end Go.Proofs.YtgaackedappmgaaDoor.K
