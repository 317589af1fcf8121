import Derived.Test.YthmghcjkmmhgnaaFb
import Derived.Test.YthmghcjkmmhgnaaFc
import Derived.Test.YthmghcjkmmhgnaaMz
import Derived.Test.YthmghcjkmmhgnaaHa
import Derived.IntWalk
import Derived.BigQuiet
import Derived.RegionTactic
import Derived.ChangeAlike
namespace Go.Proofs.Ythmghcjkmmhgnaa.K
open Go.RowKit Go.Proofs.YthmghcjkmmhgnaaW.PrintWords Go.Proofs.YthmghcjkmmhgnaaW.PrintLast Go.Proofs.YthmghcjkmmhgnaaW.PrintMore
set_option linter.unusedVariables false
set_option linter.unusedSimpArgs false
set_option maxRecDepth 100000

def NextOut (F : Nat → Prop) (g : Nat) (bs : List Int) (e : Ending) (w' : World) : Except Int (Instr × Nat) → Prop
  | .ok (x, j) => e = .returned (.tuple #[.agg #[.int .i64 x.op, .int .i64 x.a], .int .i64 0]) ∧ RR w' F g bs j 0
  | .error c => e = .returned (.tuple #[.agg #[.int .i64 0, .int .i64 0], .int .i64 c])
theorem getD_byte {bs : List Int} (h : ∀ c ∈ bs, 0 ≤ c ∧ c < 256) (i : Nat) : 0 ≤ bs.getD i 0 ∧ bs.getD i 0 < 256 := by
  by_cases hi : i < bs.length
  · have := h (bs.getD i 0) (by rw [List.getD_eq_getElem?_getD, List.getElem?_eq_getElem hi]; exact List.getElem_mem hi)
    exact this
  · rw [List.getD_eq_getElem?_getD, List.getElem?_eq_none (by omega)]
    exact ⟨by decide, by decide⟩
theorem cell2 {w : World} {g : Nat} {a b : Value} {t : TypeId} (h : w.heap[g]? = some (.cells #[a, b] t (0, 0))) :
    w.cell? ⟨g, 0, none⟩ = some a ∧ w.cell? ⟨g, 1, none⟩ = some b ∧ w.frozen? ⟨g, 0, none⟩ = false ∧ w.frozen? ⟨g, 1, none⟩ = false := ⟨blk_cell h 0, blk_cell h 1, blk_frozen h 0, blk_frozen h 1⟩
theorem nx_al {w1 w2 W3 : World} {F : Nat → Prop} {g i n0 n1 : Nat} {bs : List Int} {er : Int} {A : Array Value} {t : TypeId} {o0 o1 : Obj} (hR : RR w2 F g bs i er) (hc : Chg (fun k => k = g) w1 w2) (h0 : w2.heap[n0]? = some o0) (h1 : w2.heap[n1]? = some o1) (h3 : w2.alloc (.cells A t) = W3) :
    RR W3 F g bs i er ∧ Chg (fun k => k = g) w1 W3 ∧ W3.heap[n0]? = some o0 ∧ W3.heap[n1]? = some o1 ∧ W3.heap[w2.heap.size]? = some (.cells A t (0, 0)) := by
  subst h3
  have hq : Chg (fun _ => False) w2 (w2.alloc (.cells A t)) := (Chg.refl _ w2).alloc _
  exact ⟨hR.chg hq (fun _ _ _ h => h), hc.alloc _, hq.blk h0 (fun h => h), hq.blk h1 (fun h => h), heap_alloc_new w2 _⟩
theorem uint_val {kd x : Int} (b0 : 0 ≤ kd) (b1 : kd ≤ 8) (h1 : ¬ kd = 1) (x0 : 0 ≤ x) (x1 : x ≤ 18446744073709551615) : (IntKind.i64.wrap x = x ∧ aOf kd x = x) ∨ (rightP kd (IntKind.i64.wrap x) = false ∧ rightP kd (aOf kd x) = false) := by
  by_cases h : x ≤ 9223372036854775807
  · left
    refine ⟨by simp [IntKind.wrap, IntKind.bits, IntKind.signed]; omega, ?_⟩
    unfold aOf
    rw [if_neg h1]
    omega
  · right
    have e1 : IntKind.i64.wrap x = x - 18446744073709551616 := by simp [IntKind.wrap, IntKind.bits, IntKind.signed]; omega
    have e2 : aOf kd x = 9223372036854775807 := by unfold aOf; rw [if_neg h1]; omega
    rw [e1, e2]
    have hk : kd = 0 ∨ kd = 2 ∨ kd = 3 ∨ kd = 4 ∨ kd = 5 ∨ kd = 6 ∨ kd = 7 ∨ kd = 8 := by omega
    rcases hk with rfl | rfl | rfl | rfl | rfl | rfl | rfl | rfl <;> refine ⟨?_, by decide⟩ <;> simp [rightP, limP] <;> omega
theorem infoI2 : (Try.prog.info? 35).map (·.size) = some 2 := by kernel_rfl
theorem nx_two {w : World} {g : Nat} {a b : Value} {t : TypeId} (h : w.heap[g]? = some (.cells #[a, b] t (0, 0))) (x y : Value) : ((w.setCell ⟨g, 0, none⟩ x).setCell ⟨g, 1, none⟩ y).heap[g]? = some (.cells #[x, y] t (0, 0)) := by
  have := blk_set (blk_set h 0 x) 1 y
  simpa using this
theorem nx_twoc (w : World) (g : Nat) (x y : Value) : Chg (fun k => k = g) w ((w.setCell ⟨g, 0, none⟩ x).setCell ⟨g, 1, none⟩ y) := ((Chg.refl (fun k => k = g) w).setCell (p := ⟨g, 0, none⟩) (fun _ => rfl) x).setCell (p := ⟨g, 1, none⟩) (fun _ => rfl) y
theorem nx_set {w w5 W6 : World} {F : Nat → Prop} {g i n2 : Nat} {bs : List Int} {er : Int} {x y z : Value} {t : TypeId} {o0 o1 : Obj} (hR : RR w5 F g bs i er) (h0 : w5.heap[w.heap.size]? = some o0) (h1 : w5.heap[w.heap.size + 1]? = some o1) (h2 : w5.heap[n2]? = some (.cells #[x, y] t (0, 0))) (hF : ∀ k, F k → k < w.heap.size) (hl : w.heap.size + 2 ≤ n2) (e0 : ¬ w.heap.size = n2) (e1 : ¬ w.heap.size + 1 = n2) (h6 : w5.setCell ⟨n2, 1, none⟩ z = W6) :
    RR W6 F g bs i er ∧ W6.heap[w.heap.size]? = some o0 ∧ W6.heap[w.heap.size + 1]? = some o1 ∧ W6.heap[n2]? = some (.cells #[x, z] t (0, 0)) ∧ Chg (fun k => k = n2) w5 W6 := by
  subst h6
  have hc : Chg (fun k => k = n2) w5 (w5.setCell ⟨n2, 1, none⟩ z) := (Chg.refl (fun k => k = n2) w5).setCell (p := ⟨n2, 1, none⟩) (fun _ => rfl) z
  refine ⟨hR.chg hc (fun k _ hk e => by have := hF k hk; omega), hc.blk h0 e0, hc.blk h1 e1, ?_, hc⟩
  have := blk_set h2 1 z
  simpa using this
set_option maxHeartbeats 4000000
theorem ref_next (w : World) (F : Nat → Prop) (g i : Nat) (bs : List Int) (hw : RR w F g bs i 0) (hi : i < bs.length) (hF : ∀ k, F k → k < w.heap.size) :
    Calls Try.prog 55 #[.pointer (some ⟨g, 0, none⟩)] w fun e w' => NextOut F g bs e w' (nextP bs i) ∧ Chg (fun k => k = g) w w' := by
  have hg : g < w.heap.size := by obtain ⟨A, c, hb, _⟩ := hw; exact blk_lt hb
  have hq : Chg (fun _ => False) w ((w.alloc (.cells #[.int .i64 0, .int .i64 0] 35)).alloc (.cells #[.int .i64 0, .int .i64 0] 35)) := ((Chg.refl _ w).alloc _).alloc _
  have hFw := Aside0.mk hF
  clear hF
  have hW2 := Aside0.mk (hw.chg hq (fun _ _ _ h => h))
  have nb1 := Aside0.mk (heap_alloc2_new w (.cells #[.int .i64 0, .int .i64 0] 35) (.cells #[.int .i64 0, .int .i64 0] 35))
  have nb0 := Aside0.mk (((Chg.refl (fun _ => False) (w.alloc (.cells #[.int .i64 0, .int .i64 0] 35))).alloc (.cells #[.int .i64 0, .int .i64 0] 35)).blk (heap_alloc_new w _) (fun h => h))
  have hn0 : Aside0 (¬ w.heap.size = g) := ⟨by omega⟩
  have hn1 : Aside0 (¬ w.heap.size + 1 = g) := ⟨by omega⟩
  replace hq := Aside0.mk hq
  clear hw
  have hE : Aside0 (rrun (pNext bs) 0 i 0 = (bs.getD i 0, i + 1, 0)) := ⟨by simp [rrun, pNext, hi]⟩
  obtain ⟨op, hop⟩ : ∃ op, op = bs.getD i 0 := ⟨_, rfl⟩
  rw [← hop] at hE
  have hby : ∀ c ∈ bs, 0 ≤ c ∧ c < 256 := by obtain ⟨_, _, _, _, _, _, h, _⟩ := hW2.out; exact h
  have hb0 : 0 ≤ op := by rw [hop]; exact (getD_byte hby i).1
  have hb1 : op < 256 := by rw [hop]; exact (getD_byte hby i).2
  have u0 : IntKind.i64.wrap op = op := i64_small hb0 (by omega)
  replace hby := Aside0.mk hby
  by_cases ho : okP op = true
  · obtain ⟨kb0, kb1, _⟩ := rowP_bounds op
    obtain ⟨kd, hkd⟩ : ∃ kd, kd = (rowP op).kind := ⟨_, rfl⟩
    have hkA := Aside0.mk hkd.symm
    rw [← hkd] at kb0 kb1
    have hrg : ∀ x, rightP kd x = true → chkP op x = 0 := fun x h => by unfold chkP efP; rw [ho, ← hkd, h]; rfl
    have hrn : ∀ x, rightP kd x = false → chkP op x = 7 := fun x h => by unfold chkP efP; rw [ho, ← hkd, h]; rfl
    by_cases hk0 : kd = 0
    · subst hk0
      have hck := Aside0.mk (hrg 0 (by decide))
      have hN : Aside0 (nextP bs i = .ok (⟨op, 0⟩, i + 1)) := ⟨next_zero hop.symm ho (hkd.symm)⟩
      clear hop hkd hrg hrn
      go_enter Try.func55, Try.ntmps55
      go_wp2_with (first | (go_at_call 81; go_must (refine (ref_Byte _ F g i bs 0 hW2.out).mono ?_); go_must (rintro e w2 ⟨rfl, hR2, hc2⟩); go_must (rw [hE.out] at hR2 ⊢); go_must (have hb0 := hc2.blk nb0.out hn0.out); go_must (have hb1 := hc2.blk nb1.out hn1.out); go_must (replace hR2 := Aside0.mk hR2); go_must (replace hc2 := Aside0.mk hc2); go_must (replace hb0 := Aside0.mk hb0); go_must (replace hb1 := Aside0.mk hb1)) | (go_at_call 20; go_must (generalize hW3 : World.alloc _ _ = W3); go_must (obtain ⟨hR3, hc3, hb03, hb13, hb23⟩ := nx_al hR2.out hc2.out hb0.out hb1.out hW3); go_must (have n0c := cell2 hb03); go_must (have n1c := cell2 hb13); go_must (have n2c := cell2 hb23); go_must (obtain ⟨p0, p1, p2, p3⟩ := n0c); go_must (obtain ⟨q0, q1, q2, q3⟩ := n1c); go_must (obtain ⟨r0, r1, r2, r3⟩ := n2c); go_must (clear hW3); go_must (obtain ⟨Ag, cg, hbg, _⟩ := id hR3); go_must (obtain ⟨_, _, t2, _, _, t5⟩ := cells3 hbg); go_must (clear hbg); go_must (have hn2 : Aside0 (¬ w2.heap.size = g) := ⟨by have := hc2.out.size; simp at this; omega⟩); go_must (have hlw : Aside0 (w.heap.size + 2 ≤ w2.heap.size) := ⟨by have := hc2.out.size; simp at this; omega⟩); go_must (have hn02 : Aside0 (¬ w.heap.size = w2.heap.size) := ⟨by have := hlw.out; omega⟩); go_must (have hn12 : Aside0 (¬ w.heap.size + 1 = w2.heap.size) := ⟨by have := hlw.out; omega⟩); go_must (replace hR3 := Aside0.mk hR3); go_must (replace hc3 := Aside0.mk hc3); go_must (replace hb03 := Aside0.mk hb03); go_must (replace hb13 := Aside0.mk hb13); go_must (replace hb23 := Aside0.mk hb23); go_must (refine (ref_Operand W3 op).mono ?_); go_must (rintro e w4 ⟨rfl, rfl⟩); go_must (rw [ho]); go_must (rw [hkA.out])) | (go_at_call 34; go_must (have hR6 := hR3.out); go_must (have hb06 := hb03.out); go_must (have hb16 := hb13.out); go_must (have hb26 := hb23.out); go_must (have hc6 := hc3); go_must (clear p0 p1 p2 p3 q0 q1 q2 q3 r0 r1 r2 r3 hR3 hb03 hb13 hb23 hc3); go_must (refine (ref_Check _ op _).mono ?_); go_must (rintro e w7 ⟨rfl, hc7⟩); go_must (rw [hck.out]); go_must (have hR7 := hR6.chg hc7 (fun _ _ _ h => h)); go_must (have hb07 := hc7.blk hb06 (fun h => h)); go_must (have hb17 := hc7.blk hb16 (fun h => h)); go_must (have hb27 := hc7.blk hb26 (fun h => h)); go_must (obtain ⟨p0, p1, p2, p3⟩ := cell2 hb07); go_must (obtain ⟨q0, q1, q2, q3⟩ := cell2 hb17); go_must (obtain ⟨r0, r1, r2, r3⟩ := cell2 hb27); go_must (replace hc7 := Aside0.mk (hc6.out.trans hc7 (fun _ _ h => h.elim))); go_must (clear hR6 hb06 hb16 hb26); go_must (replace hR7 := Aside0.mk hR7); go_must (replace hb07 := Aside0.mk hb07); go_must (replace hb17 := Aside0.mk hb17); go_must (replace hb27 := Aside0.mk hb27)))
      refine bodyPost_ret (results_cellT rfl _ _ _ _ rfl _ (run_loadVar_row _ _ _ _ _ _ _ (nx_two hb07.out _ _) Try.underlying35 rfl infoI2)) rfl ?_
      have hE6 := fun x y => hR7.out.chg (nx_twoc _ _ x y) (fun k _ hk (e : k = w.heap.size) => by have := hFw.out k hk; omega)
      have hF6 := fun x y => ((hq.out.mono (fun _ _ h => h.elim)).trans hc7.out (fun _ _ h => h)).trans (nx_twoc _ _ x y) (fun k hk (e : k = w.heap.size) => by omega)
      rw [hN.out]
      exact ⟨⟨rfl, hE6 _ _⟩, hF6 _ _⟩
    · have kz : (kd == 0) = false := by simpa using hk0
      have kz2 : (kd != 0) = true := by simpa using hk0
      by_cases hk1 : kd = 1
      · subst hk1
        rcases hp : pNum bs (i + 1) with c | ⟨x, j⟩
        · have hcne := pNum_err hp
          have dE : (c == 0) = false := by simpa using hcne
          have dE2 : (c != 0) = true := by simpa using hcne
          have hx := Aside0.mk (rrun_no hp)
          have hN : Aside0 (nextP bs i = .error c) := ⟨next_err hop.symm ho (by rw [← hkd]; exact hk0) hp⟩
          obtain ⟨val, hval⟩ : ∃ val, val = unfoldI 0 := ⟨_, rfl⟩
          have hvA := Aside0.mk hval.symm
          clear hop hkd hrg hrn hp hval
          go_enter Try.func55, Try.ntmps55
          go_wp2_with (first | (go_at_call 81; go_must (refine (ref_Byte _ F g i bs 0 hW2.out).mono ?_); go_must (rintro e w2 ⟨rfl, hR2, hc2⟩); go_must (rw [hE.out] at hR2 ⊢); go_must (have hb0 := hc2.blk nb0.out hn0.out); go_must (have hb1 := hc2.blk nb1.out hn1.out); go_must (replace hR2 := Aside0.mk hR2); go_must (replace hc2 := Aside0.mk hc2); go_must (replace hb0 := Aside0.mk hb0); go_must (replace hb1 := Aside0.mk hb1)) | (go_at_call 20; go_must (generalize hW3 : World.alloc _ _ = W3); go_must (obtain ⟨hR3, hc3, hb03, hb13, hb23⟩ := nx_al hR2.out hc2.out hb0.out hb1.out hW3); go_must (have n0c := cell2 hb03); go_must (have n1c := cell2 hb13); go_must (have n2c := cell2 hb23); go_must (obtain ⟨p0, p1, p2, p3⟩ := n0c); go_must (obtain ⟨q0, q1, q2, q3⟩ := n1c); go_must (obtain ⟨r0, r1, r2, r3⟩ := n2c); go_must (clear hW3); go_must (obtain ⟨Ag, cg, hbg, _⟩ := id hR3); go_must (obtain ⟨_, _, t2, _, _, t5⟩ := cells3 hbg); go_must (clear hbg); go_must (have hn2 : Aside0 (¬ w2.heap.size = g) := ⟨by have := hc2.out.size; simp at this; omega⟩); go_must (have hlw : Aside0 (w.heap.size + 2 ≤ w2.heap.size) := ⟨by have := hc2.out.size; simp at this; omega⟩); go_must (have hn02 : Aside0 (¬ w.heap.size = w2.heap.size) := ⟨by have := hlw.out; omega⟩); go_must (have hn12 : Aside0 (¬ w.heap.size + 1 = w2.heap.size) := ⟨by have := hlw.out; omega⟩); go_must (replace hR3 := Aside0.mk hR3); go_must (replace hc3 := Aside0.mk hc3); go_must (replace hb03 := Aside0.mk hb03); go_must (replace hb13 := Aside0.mk hb13); go_must (replace hb23 := Aside0.mk hb23); go_must (refine (ref_Operand W3 op).mono ?_); go_must (rintro e w4 ⟨rfl, rfl⟩); go_must (rw [ho]); go_must (rw [hkA.out])) | (go_at_call 82; go_must (refine (ref_Int _ F g (i + 1) bs 0 hR3.out).mono ?_); go_must (rintro e w5 ⟨rfl, hR5, hc5⟩); go_must (rw [hx.out] at hR5 ⊢); go_must (simp only [hvA.out]); go_must (have hb05 := hc5.blk hb03.out hn0.out); go_must (have hb15 := hc5.blk hb13.out hn1.out); go_must (have hb25 := hc5.blk hb23.out hn2.out); go_must (have hc6 := Aside0.mk (hc3.out.trans hc5 (fun _ _ h => h))); go_must (clear p0 p1 p2 p3 q0 q1 q2 q3 r0 r1 r2 r3 hR3 hc3 hb03 hb13 hb23 hc5); go_must (obtain ⟨p0, p1, p2, p3⟩ := cell2 hb05); go_must (obtain ⟨q0, q1, q2, q3⟩ := cell2 hb15); go_must (obtain ⟨r0, r1, r2, r3⟩ := cell2 hb25); go_must (obtain ⟨Ag, cg, hbg, _⟩ := id hR5); go_must (obtain ⟨_, _, t2, _, _, t5⟩ := cells3 hbg); go_must (clear hbg); go_must (replace hR5 := Aside0.mk hR5); go_must (replace hb05 := Aside0.mk hb05); go_must (replace hb15 := Aside0.mk hb15); go_must (replace hb25 := Aside0.mk hb25)))
          generalize hW6 : World.setCell _ _ _ = W6
          obtain ⟨hR6, hb06, hb16, hb26, hc6b⟩ := nx_set hR5.out hb05.out hb15.out hb25.out hFw.out hlw.out hn02.out hn12.out hW6
          replace hc6 := Aside0.mk (hc6.out.trans hc6b (fun k hk h => by have := hlw.out; simp at hk; omega))
          clear hW6 hc6b p0 p1 p2 p3 q0 q1 q2 q3 r0 r1 r2 r3 t2 t5 hb05 hb15 hb25 hR5
          obtain ⟨p0, p1, p2, p3⟩ := cell2 hb06
          obtain ⟨q0, q1, q2, q3⟩ := cell2 hb16
          obtain ⟨Ag, cg, hbg, _⟩ := id hR6
          obtain ⟨_, _, t2, _, _, t5⟩ := cells3 hbg
          clear hbg
          replace hR6 := Aside0.mk hR6
          replace hb06 := Aside0.mk hb06
          replace hb16 := Aside0.mk hb16
          replace hb26 := Aside0.mk hb26
          go_region
          go_wp2
          refine bodyPost_ret (results_cellT rfl _ _ _ _ rfl _ (run_loadVar_row _ _ _ _ _ _ _ (nx_two hb06.out _ _) Try.underlying35 rfl infoI2)) rfl ?_
          have hE6 := fun x y => hR6.out.chg (nx_twoc _ _ x y) (fun k _ hk (e : k = w.heap.size) => by have := hFw.out k hk; omega)
          have hF6 := fun x y => ((hq.out.mono (fun _ _ h => h.elim)).trans hc6.out (fun _ _ h => h)).trans (nx_twoc _ _ x y) (fun k hk (e : k = w.heap.size) => by omega)
          rw [hN.out]
          exact ⟨rfl, (hF6 _ _).drew⟩
        · have hx := Aside0.mk (rrun_ok hp)
          obtain ⟨val, hval⟩ : ∃ val, val = unfoldI x := ⟨_, rfl⟩
          have hvA := Aside0.mk hval.symm
          have hck := Aside0.mk (hrg val rfl)
          have hN : Aside0 (nextP bs i = .ok (⟨op, val⟩, j)) := ⟨by rw [next_right hop.symm ho (by rw [← hkd]; exact hk0) hp, ← hkd]; rw [hval]; rfl⟩
          clear hop hkd hrg hrn hp hval
          go_enter Try.func55, Try.ntmps55
          go_wp2_with (first | (go_at_call 81; go_must (refine (ref_Byte _ F g i bs 0 hW2.out).mono ?_); go_must (rintro e w2 ⟨rfl, hR2, hc2⟩); go_must (rw [hE.out] at hR2 ⊢); go_must (have hb0 := hc2.blk nb0.out hn0.out); go_must (have hb1 := hc2.blk nb1.out hn1.out); go_must (replace hR2 := Aside0.mk hR2); go_must (replace hc2 := Aside0.mk hc2); go_must (replace hb0 := Aside0.mk hb0); go_must (replace hb1 := Aside0.mk hb1)) | (go_at_call 20; go_must (generalize hW3 : World.alloc _ _ = W3); go_must (obtain ⟨hR3, hc3, hb03, hb13, hb23⟩ := nx_al hR2.out hc2.out hb0.out hb1.out hW3); go_must (have n0c := cell2 hb03); go_must (have n1c := cell2 hb13); go_must (have n2c := cell2 hb23); go_must (obtain ⟨p0, p1, p2, p3⟩ := n0c); go_must (obtain ⟨q0, q1, q2, q3⟩ := n1c); go_must (obtain ⟨r0, r1, r2, r3⟩ := n2c); go_must (clear hW3); go_must (obtain ⟨Ag, cg, hbg, _⟩ := id hR3); go_must (obtain ⟨_, _, t2, _, _, t5⟩ := cells3 hbg); go_must (clear hbg); go_must (have hn2 : Aside0 (¬ w2.heap.size = g) := ⟨by have := hc2.out.size; simp at this; omega⟩); go_must (have hlw : Aside0 (w.heap.size + 2 ≤ w2.heap.size) := ⟨by have := hc2.out.size; simp at this; omega⟩); go_must (have hn02 : Aside0 (¬ w.heap.size = w2.heap.size) := ⟨by have := hlw.out; omega⟩); go_must (have hn12 : Aside0 (¬ w.heap.size + 1 = w2.heap.size) := ⟨by have := hlw.out; omega⟩); go_must (replace hR3 := Aside0.mk hR3); go_must (replace hc3 := Aside0.mk hc3); go_must (replace hb03 := Aside0.mk hb03); go_must (replace hb13 := Aside0.mk hb13); go_must (replace hb23 := Aside0.mk hb23); go_must (refine (ref_Operand W3 op).mono ?_); go_must (rintro e w4 ⟨rfl, rfl⟩); go_must (rw [ho]); go_must (rw [hkA.out])) | (go_at_call 82; go_must (refine (ref_Int _ F g (i + 1) bs 0 hR3.out).mono ?_); go_must (rintro e w5 ⟨rfl, hR5, hc5⟩); go_must (rw [hx.out] at hR5 ⊢); go_must (simp only [hvA.out]); go_must (have hb05 := hc5.blk hb03.out hn0.out); go_must (have hb15 := hc5.blk hb13.out hn1.out); go_must (have hb25 := hc5.blk hb23.out hn2.out); go_must (have hc6 := Aside0.mk (hc3.out.trans hc5 (fun _ _ h => h))); go_must (clear p0 p1 p2 p3 q0 q1 q2 q3 r0 r1 r2 r3 hR3 hc3 hb03 hb13 hb23 hc5); go_must (obtain ⟨p0, p1, p2, p3⟩ := cell2 hb05); go_must (obtain ⟨q0, q1, q2, q3⟩ := cell2 hb15); go_must (obtain ⟨r0, r1, r2, r3⟩ := cell2 hb25); go_must (obtain ⟨Ag, cg, hbg, _⟩ := id hR5); go_must (obtain ⟨_, _, t2, _, _, t5⟩ := cells3 hbg); go_must (clear hbg); go_must (replace hR5 := Aside0.mk hR5); go_must (replace hb05 := Aside0.mk hb05); go_must (replace hb15 := Aside0.mk hb15); go_must (replace hb25 := Aside0.mk hb25)) | (go_at_call 34; go_must (generalize hW6 : World.setCell _ _ _ = W6); go_must (obtain ⟨hR6, hb06, hb16, hb26, hc6b⟩ := nx_set hR5.out hb05.out hb15.out hb25.out hFw.out hlw.out hn02.out hn12.out hW6); go_must (have hc6 := Aside0.mk (hc6.out.trans hc6b (fun k hk h => by have := hlw.out; simp at hk; omega))); go_must (clear hW6 hc6b p0 p1 p2 p3 q0 q1 q2 q3 r0 r1 r2 r3 t2 t5 hb05 hb15 hb25 hR5); go_must (refine (ref_Check _ op _).mono ?_); go_must (rintro e w7 ⟨rfl, hc7⟩); go_must (rw [hck.out]); go_must (have hR7 := hR6.chg hc7 (fun _ _ _ h => h)); go_must (have hb07 := hc7.blk hb06 (fun h => h)); go_must (have hb17 := hc7.blk hb16 (fun h => h)); go_must (have hb27 := hc7.blk hb26 (fun h => h)); go_must (obtain ⟨p0, p1, p2, p3⟩ := cell2 hb07); go_must (obtain ⟨q0, q1, q2, q3⟩ := cell2 hb17); go_must (obtain ⟨r0, r1, r2, r3⟩ := cell2 hb27); go_must (replace hc7 := Aside0.mk (hc6.out.trans hc7 (fun _ _ h => h.elim))); go_must (clear hR6 hb06 hb16 hb26); go_must (replace hR7 := Aside0.mk hR7); go_must (replace hb07 := Aside0.mk hb07); go_must (replace hb17 := Aside0.mk hb17); go_must (replace hb27 := Aside0.mk hb27)))
          refine bodyPost_ret (results_cellT rfl _ _ _ _ rfl _ (run_loadVar_row _ _ _ _ _ _ _ (nx_two hb07.out _ _) Try.underlying35 rfl infoI2)) rfl ?_
          have hE6 := fun x y => hR7.out.chg (nx_twoc _ _ x y) (fun k _ hk (e : k = w.heap.size) => by have := hFw.out k hk; omega)
          have hF6 := fun x y => ((hq.out.mono (fun _ _ h => h.elim)).trans hc7.out (fun _ _ h => h)).trans (nx_twoc _ _ x y) (fun k hk (e : k = w.heap.size) => by omega)
          rw [hN.out]
          exact ⟨⟨rfl, hE6 _ _⟩, hF6 _ _⟩
      · have k1 : (kd == 1) = false := by simpa using hk1
        rcases hp : pNum bs (i + 1) with c | ⟨x, j⟩
        · have hcne := pNum_err hp
          have dE : (c == 0) = false := by simpa using hcne
          have dE2 : (c != 0) = true := by simpa using hcne
          have hx := Aside0.mk (rrun_no hp)
          have hN : Aside0 (nextP bs i = .error c) := ⟨next_err hop.symm ho (by rw [← hkd]; exact hk0) hp⟩
          obtain ⟨val, hval⟩ : ∃ val : Int, val = 0 := ⟨_, rfl⟩
          have u1 : IntKind.i64.wrap 0 = val := by rw [hval]; decide
          clear hop hkd hrg hrn hp hval
          go_enter Try.func55, Try.ntmps55
          go_wp2_with (first | (go_at_call 81; go_must (refine (ref_Byte _ F g i bs 0 hW2.out).mono ?_); go_must (rintro e w2 ⟨rfl, hR2, hc2⟩); go_must (rw [hE.out] at hR2 ⊢); go_must (have hb0 := hc2.blk nb0.out hn0.out); go_must (have hb1 := hc2.blk nb1.out hn1.out); go_must (replace hR2 := Aside0.mk hR2); go_must (replace hc2 := Aside0.mk hc2); go_must (replace hb0 := Aside0.mk hb0); go_must (replace hb1 := Aside0.mk hb1)) | (go_at_call 20; go_must (generalize hW3 : World.alloc _ _ = W3); go_must (obtain ⟨hR3, hc3, hb03, hb13, hb23⟩ := nx_al hR2.out hc2.out hb0.out hb1.out hW3); go_must (have n0c := cell2 hb03); go_must (have n1c := cell2 hb13); go_must (have n2c := cell2 hb23); go_must (obtain ⟨p0, p1, p2, p3⟩ := n0c); go_must (obtain ⟨q0, q1, q2, q3⟩ := n1c); go_must (obtain ⟨r0, r1, r2, r3⟩ := n2c); go_must (clear hW3); go_must (obtain ⟨Ag, cg, hbg, _⟩ := id hR3); go_must (obtain ⟨_, _, t2, _, _, t5⟩ := cells3 hbg); go_must (clear hbg); go_must (have hn2 : Aside0 (¬ w2.heap.size = g) := ⟨by have := hc2.out.size; simp at this; omega⟩); go_must (have hlw : Aside0 (w.heap.size + 2 ≤ w2.heap.size) := ⟨by have := hc2.out.size; simp at this; omega⟩); go_must (have hn02 : Aside0 (¬ w.heap.size = w2.heap.size) := ⟨by have := hlw.out; omega⟩); go_must (have hn12 : Aside0 (¬ w.heap.size + 1 = w2.heap.size) := ⟨by have := hlw.out; omega⟩); go_must (replace hR3 := Aside0.mk hR3); go_must (replace hc3 := Aside0.mk hc3); go_must (replace hb03 := Aside0.mk hb03); go_must (replace hb13 := Aside0.mk hb13); go_must (replace hb23 := Aside0.mk hb23); go_must (refine (ref_Operand W3 op).mono ?_); go_must (rintro e w4 ⟨rfl, rfl⟩); go_must (rw [ho]); go_must (rw [hkA.out])) | (go_at_call 83; go_must (refine (ref_Uint _ F g (i + 1) bs 0 hR3.out).mono ?_); go_must (rintro e w5 ⟨rfl, hR5, hc5⟩); go_must (rw [hx.out] at hR5 ⊢); skip; go_must (have hb05 := hc5.blk hb03.out hn0.out); go_must (have hb15 := hc5.blk hb13.out hn1.out); go_must (have hb25 := hc5.blk hb23.out hn2.out); go_must (have hc6 := Aside0.mk (hc3.out.trans hc5 (fun _ _ h => h))); go_must (clear p0 p1 p2 p3 q0 q1 q2 q3 r0 r1 r2 r3 hR3 hc3 hb03 hb13 hb23 hc5); go_must (obtain ⟨p0, p1, p2, p3⟩ := cell2 hb05); go_must (obtain ⟨q0, q1, q2, q3⟩ := cell2 hb15); go_must (obtain ⟨r0, r1, r2, r3⟩ := cell2 hb25); go_must (obtain ⟨Ag, cg, hbg, _⟩ := id hR5); go_must (obtain ⟨_, _, t2, _, _, t5⟩ := cells3 hbg); go_must (clear hbg); go_must (replace hR5 := Aside0.mk hR5); go_must (replace hb05 := Aside0.mk hb05); go_must (replace hb15 := Aside0.mk hb15); go_must (replace hb25 := Aside0.mk hb25)))
          generalize hW6 : World.setCell _ _ _ = W6
          obtain ⟨hR6, hb06, hb16, hb26, hc6b⟩ := nx_set hR5.out hb05.out hb15.out hb25.out hFw.out hlw.out hn02.out hn12.out hW6
          replace hc6 := Aside0.mk (hc6.out.trans hc6b (fun k hk h => by have := hlw.out; simp at hk; omega))
          clear hW6 hc6b p0 p1 p2 p3 q0 q1 q2 q3 r0 r1 r2 r3 t2 t5 hb05 hb15 hb25 hR5
          obtain ⟨p0, p1, p2, p3⟩ := cell2 hb06
          obtain ⟨q0, q1, q2, q3⟩ := cell2 hb16
          obtain ⟨Ag, cg, hbg, _⟩ := id hR6
          obtain ⟨_, _, t2, _, _, t5⟩ := cells3 hbg
          clear hbg
          replace hR6 := Aside0.mk hR6
          replace hb06 := Aside0.mk hb06
          replace hb16 := Aside0.mk hb16
          replace hb26 := Aside0.mk hb26
          go_region
          go_wp2
          refine bodyPost_ret (results_cellT rfl _ _ _ _ rfl _ (run_loadVar_row _ _ _ _ _ _ _ (nx_two hb06.out _ _) Try.underlying35 rfl infoI2)) rfl ?_
          have hE6 := fun x y => hR6.out.chg (nx_twoc _ _ x y) (fun k _ hk (e : k = w.heap.size) => by have := hFw.out k hk; omega)
          have hF6 := fun x y => ((hq.out.mono (fun _ _ h => h.elim)).trans hc6.out (fun _ _ h => h)).trans (nx_twoc _ _ x y) (fun k hk (e : k = w.heap.size) => by omega)
          rw [hN.out]
          exact ⟨rfl, (hF6 _ _).drew⟩
        · have hx := Aside0.mk (rrun_ok hp)
          obtain ⟨x0, x1⟩ := pNum_range hby.out hp
          obtain ⟨val, hval⟩ : ∃ val, val = IntKind.i64.wrap x := ⟨_, rfl⟩
          have u1 := hval.symm
          have hnr := next_right hop.symm ho (by rw [← hkd]; exact hk0) hp
          rw [← hkd] at hnr
          cases hr : rightP kd val
          · have hck := Aside0.mk (hrn val hr)
            have hN : Aside0 (nextP bs i = .error 7) := ⟨by
              rcases uint_val kb0 kb1 hk1 x0 x1 with ⟨e1, e2⟩ | ⟨e1, e2⟩
              · rw [hnr, e2, ← e1, u1, hr]; rfl
              · rw [hnr, e2]; rfl⟩
            clear hop hkd hrg hrn hp hval hnr hr
            go_enter Try.func55, Try.ntmps55
            go_wp2_with (first | (go_at_call 81; go_must (refine (ref_Byte _ F g i bs 0 hW2.out).mono ?_); go_must (rintro e w2 ⟨rfl, hR2, hc2⟩); go_must (rw [hE.out] at hR2 ⊢); go_must (have hb0 := hc2.blk nb0.out hn0.out); go_must (have hb1 := hc2.blk nb1.out hn1.out); go_must (replace hR2 := Aside0.mk hR2); go_must (replace hc2 := Aside0.mk hc2); go_must (replace hb0 := Aside0.mk hb0); go_must (replace hb1 := Aside0.mk hb1)) | (go_at_call 20; go_must (generalize hW3 : World.alloc _ _ = W3); go_must (obtain ⟨hR3, hc3, hb03, hb13, hb23⟩ := nx_al hR2.out hc2.out hb0.out hb1.out hW3); go_must (have n0c := cell2 hb03); go_must (have n1c := cell2 hb13); go_must (have n2c := cell2 hb23); go_must (obtain ⟨p0, p1, p2, p3⟩ := n0c); go_must (obtain ⟨q0, q1, q2, q3⟩ := n1c); go_must (obtain ⟨r0, r1, r2, r3⟩ := n2c); go_must (clear hW3); go_must (obtain ⟨Ag, cg, hbg, _⟩ := id hR3); go_must (obtain ⟨_, _, t2, _, _, t5⟩ := cells3 hbg); go_must (clear hbg); go_must (have hn2 : Aside0 (¬ w2.heap.size = g) := ⟨by have := hc2.out.size; simp at this; omega⟩); go_must (have hlw : Aside0 (w.heap.size + 2 ≤ w2.heap.size) := ⟨by have := hc2.out.size; simp at this; omega⟩); go_must (have hn02 : Aside0 (¬ w.heap.size = w2.heap.size) := ⟨by have := hlw.out; omega⟩); go_must (have hn12 : Aside0 (¬ w.heap.size + 1 = w2.heap.size) := ⟨by have := hlw.out; omega⟩); go_must (replace hR3 := Aside0.mk hR3); go_must (replace hc3 := Aside0.mk hc3); go_must (replace hb03 := Aside0.mk hb03); go_must (replace hb13 := Aside0.mk hb13); go_must (replace hb23 := Aside0.mk hb23); go_must (refine (ref_Operand W3 op).mono ?_); go_must (rintro e w4 ⟨rfl, rfl⟩); go_must (rw [ho]); go_must (rw [hkA.out])) | (go_at_call 83; go_must (refine (ref_Uint _ F g (i + 1) bs 0 hR3.out).mono ?_); go_must (rintro e w5 ⟨rfl, hR5, hc5⟩); go_must (rw [hx.out] at hR5 ⊢); skip; go_must (have hb05 := hc5.blk hb03.out hn0.out); go_must (have hb15 := hc5.blk hb13.out hn1.out); go_must (have hb25 := hc5.blk hb23.out hn2.out); go_must (have hc6 := Aside0.mk (hc3.out.trans hc5 (fun _ _ h => h))); go_must (clear p0 p1 p2 p3 q0 q1 q2 q3 r0 r1 r2 r3 hR3 hc3 hb03 hb13 hb23 hc5); go_must (obtain ⟨p0, p1, p2, p3⟩ := cell2 hb05); go_must (obtain ⟨q0, q1, q2, q3⟩ := cell2 hb15); go_must (obtain ⟨r0, r1, r2, r3⟩ := cell2 hb25); go_must (obtain ⟨Ag, cg, hbg, _⟩ := id hR5); go_must (obtain ⟨_, _, t2, _, _, t5⟩ := cells3 hbg); go_must (clear hbg); go_must (replace hR5 := Aside0.mk hR5); go_must (replace hb05 := Aside0.mk hb05); go_must (replace hb15 := Aside0.mk hb15); go_must (replace hb25 := Aside0.mk hb25)) | (go_at_call 34; go_must (generalize hW6 : World.setCell _ _ _ = W6); go_must (obtain ⟨hR6, hb06, hb16, hb26, hc6b⟩ := nx_set hR5.out hb05.out hb15.out hb25.out hFw.out hlw.out hn02.out hn12.out hW6); go_must (have hc6 := Aside0.mk (hc6.out.trans hc6b (fun k hk h => by have := hlw.out; simp at hk; omega))); go_must (clear hW6 hc6b p0 p1 p2 p3 q0 q1 q2 q3 r0 r1 r2 r3 t2 t5 hb05 hb15 hb25 hR5); go_must (refine (ref_Check _ op _).mono ?_); go_must (rintro e w7 ⟨rfl, hc7⟩); go_must (rw [hck.out]); go_must (have hR7 := hR6.chg hc7 (fun _ _ _ h => h)); go_must (have hb07 := hc7.blk hb06 (fun h => h)); go_must (have hb17 := hc7.blk hb16 (fun h => h)); go_must (have hb27 := hc7.blk hb26 (fun h => h)); go_must (obtain ⟨p0, p1, p2, p3⟩ := cell2 hb07); go_must (obtain ⟨q0, q1, q2, q3⟩ := cell2 hb17); go_must (obtain ⟨r0, r1, r2, r3⟩ := cell2 hb27); go_must (replace hc7 := Aside0.mk (hc6.out.trans hc7 (fun _ _ h => h.elim))); go_must (clear hR6 hb06 hb16 hb26); go_must (replace hR7 := Aside0.mk hR7); go_must (replace hb07 := Aside0.mk hb07); go_must (replace hb17 := Aside0.mk hb17); go_must (replace hb27 := Aside0.mk hb27)))
            refine bodyPost_ret (results_cellT rfl _ _ _ _ rfl _ (run_loadVar_row _ _ _ _ _ _ _ (nx_two hb07.out _ _) Try.underlying35 rfl infoI2)) rfl ?_
            have hE6 := fun x y => hR7.out.chg (nx_twoc _ _ x y) (fun k _ hk (e : k = w.heap.size) => by have := hFw.out k hk; omega)
            have hF6 := fun x y => ((hq.out.mono (fun _ _ h => h.elim)).trans hc7.out (fun _ _ h => h)).trans (nx_twoc _ _ x y) (fun k hk (e : k = w.heap.size) => by omega)
            rw [hN.out]
            exact ⟨rfl, hF6 _ _⟩
          · have hck := Aside0.mk (hrg val hr)
            have hN : Aside0 (nextP bs i = .ok (⟨op, val⟩, j)) := ⟨by
              rcases uint_val kb0 kb1 hk1 x0 x1 with ⟨e1, e2⟩ | ⟨e1, e2⟩
              · rw [hnr, e2, ← e1, u1, hr]; rfl
              · rw [← hval, hr] at e1; cases e1⟩
            clear hop hkd hrg hrn hp hval hnr hr
            go_enter Try.func55, Try.ntmps55
            go_wp2_with (first | (go_at_call 81; go_must (refine (ref_Byte _ F g i bs 0 hW2.out).mono ?_); go_must (rintro e w2 ⟨rfl, hR2, hc2⟩); go_must (rw [hE.out] at hR2 ⊢); go_must (have hb0 := hc2.blk nb0.out hn0.out); go_must (have hb1 := hc2.blk nb1.out hn1.out); go_must (replace hR2 := Aside0.mk hR2); go_must (replace hc2 := Aside0.mk hc2); go_must (replace hb0 := Aside0.mk hb0); go_must (replace hb1 := Aside0.mk hb1)) | (go_at_call 20; go_must (generalize hW3 : World.alloc _ _ = W3); go_must (obtain ⟨hR3, hc3, hb03, hb13, hb23⟩ := nx_al hR2.out hc2.out hb0.out hb1.out hW3); go_must (have n0c := cell2 hb03); go_must (have n1c := cell2 hb13); go_must (have n2c := cell2 hb23); go_must (obtain ⟨p0, p1, p2, p3⟩ := n0c); go_must (obtain ⟨q0, q1, q2, q3⟩ := n1c); go_must (obtain ⟨r0, r1, r2, r3⟩ := n2c); go_must (clear hW3); go_must (obtain ⟨Ag, cg, hbg, _⟩ := id hR3); go_must (obtain ⟨_, _, t2, _, _, t5⟩ := cells3 hbg); go_must (clear hbg); go_must (have hn2 : Aside0 (¬ w2.heap.size = g) := ⟨by have := hc2.out.size; simp at this; omega⟩); go_must (have hlw : Aside0 (w.heap.size + 2 ≤ w2.heap.size) := ⟨by have := hc2.out.size; simp at this; omega⟩); go_must (have hn02 : Aside0 (¬ w.heap.size = w2.heap.size) := ⟨by have := hlw.out; omega⟩); go_must (have hn12 : Aside0 (¬ w.heap.size + 1 = w2.heap.size) := ⟨by have := hlw.out; omega⟩); go_must (replace hR3 := Aside0.mk hR3); go_must (replace hc3 := Aside0.mk hc3); go_must (replace hb03 := Aside0.mk hb03); go_must (replace hb13 := Aside0.mk hb13); go_must (replace hb23 := Aside0.mk hb23); go_must (refine (ref_Operand W3 op).mono ?_); go_must (rintro e w4 ⟨rfl, rfl⟩); go_must (rw [ho]); go_must (rw [hkA.out])) | (go_at_call 83; go_must (refine (ref_Uint _ F g (i + 1) bs 0 hR3.out).mono ?_); go_must (rintro e w5 ⟨rfl, hR5, hc5⟩); go_must (rw [hx.out] at hR5 ⊢); skip; go_must (have hb05 := hc5.blk hb03.out hn0.out); go_must (have hb15 := hc5.blk hb13.out hn1.out); go_must (have hb25 := hc5.blk hb23.out hn2.out); go_must (have hc6 := Aside0.mk (hc3.out.trans hc5 (fun _ _ h => h))); go_must (clear p0 p1 p2 p3 q0 q1 q2 q3 r0 r1 r2 r3 hR3 hc3 hb03 hb13 hb23 hc5); go_must (obtain ⟨p0, p1, p2, p3⟩ := cell2 hb05); go_must (obtain ⟨q0, q1, q2, q3⟩ := cell2 hb15); go_must (obtain ⟨r0, r1, r2, r3⟩ := cell2 hb25); go_must (obtain ⟨Ag, cg, hbg, _⟩ := id hR5); go_must (obtain ⟨_, _, t2, _, _, t5⟩ := cells3 hbg); go_must (clear hbg); go_must (replace hR5 := Aside0.mk hR5); go_must (replace hb05 := Aside0.mk hb05); go_must (replace hb15 := Aside0.mk hb15); go_must (replace hb25 := Aside0.mk hb25)) | (go_at_call 34; go_must (generalize hW6 : World.setCell _ _ _ = W6); go_must (obtain ⟨hR6, hb06, hb16, hb26, hc6b⟩ := nx_set hR5.out hb05.out hb15.out hb25.out hFw.out hlw.out hn02.out hn12.out hW6); go_must (have hc6 := Aside0.mk (hc6.out.trans hc6b (fun k hk h => by have := hlw.out; simp at hk; omega))); go_must (clear hW6 hc6b p0 p1 p2 p3 q0 q1 q2 q3 r0 r1 r2 r3 t2 t5 hb05 hb15 hb25 hR5); go_must (refine (ref_Check _ op _).mono ?_); go_must (rintro e w7 ⟨rfl, hc7⟩); go_must (rw [hck.out]); go_must (have hR7 := hR6.chg hc7 (fun _ _ _ h => h)); go_must (have hb07 := hc7.blk hb06 (fun h => h)); go_must (have hb17 := hc7.blk hb16 (fun h => h)); go_must (have hb27 := hc7.blk hb26 (fun h => h)); go_must (obtain ⟨p0, p1, p2, p3⟩ := cell2 hb07); go_must (obtain ⟨q0, q1, q2, q3⟩ := cell2 hb17); go_must (obtain ⟨r0, r1, r2, r3⟩ := cell2 hb27); go_must (replace hc7 := Aside0.mk (hc6.out.trans hc7 (fun _ _ h => h.elim))); go_must (clear hR6 hb06 hb16 hb26); go_must (replace hR7 := Aside0.mk hR7); go_must (replace hb07 := Aside0.mk hb07); go_must (replace hb17 := Aside0.mk hb17); go_must (replace hb27 := Aside0.mk hb27)))
            refine bodyPost_ret (results_cellT rfl _ _ _ _ rfl _ (run_loadVar_row _ _ _ _ _ _ _ (nx_two hb07.out _ _) Try.underlying35 rfl infoI2)) rfl ?_
            have hE6 := fun x y => hR7.out.chg (nx_twoc _ _ x y) (fun k _ hk (e : k = w.heap.size) => by have := hFw.out k hk; omega)
            have hF6 := fun x y => ((hq.out.mono (fun _ _ h => h.elim)).trans hc7.out (fun _ _ h => h)).trans (nx_twoc _ _ x y) (fun k hk (e : k = w.heap.size) => by omega)
            rw [hN.out]
            exact ⟨⟨rfl, hE6 _ _⟩, hF6 _ _⟩
  · have ho : okP op = false := by simpa using ho
    have hN : Aside0 (nextP bs i = .error 7) := ⟨next_not hop.symm ho⟩
    clear hop
    go_enter Try.func55, Try.ntmps55
    go_wp2_with (first | (go_at_call 81; go_must (refine (ref_Byte _ F g i bs 0 hW2.out).mono ?_); go_must (rintro e w2 ⟨rfl, hR2, hc2⟩); go_must (rw [hE.out] at hR2 ⊢); go_must (have hb0 := hc2.blk nb0.out hn0.out); go_must (have hb1 := hc2.blk nb1.out hn1.out); go_must (replace hR2 := Aside0.mk hR2); go_must (replace hc2 := Aside0.mk hc2); go_must (replace hb0 := Aside0.mk hb0); go_must (replace hb1 := Aside0.mk hb1)) | (go_at_call 20; go_must (generalize hW3 : World.alloc _ _ = W3); go_must (obtain ⟨hR3, hc3, hb03, hb13, hb23⟩ := nx_al hR2.out hc2.out hb0.out hb1.out hW3); go_must (have n0c := cell2 hb03); go_must (have n1c := cell2 hb13); go_must (have n2c := cell2 hb23); go_must (obtain ⟨p0, p1, p2, p3⟩ := n0c); go_must (obtain ⟨q0, q1, q2, q3⟩ := n1c); go_must (obtain ⟨r0, r1, r2, r3⟩ := n2c); go_must (clear hW3); go_must (obtain ⟨Ag, cg, hbg, _⟩ := id hR3); go_must (obtain ⟨_, _, t2, _, _, t5⟩ := cells3 hbg); go_must (clear hbg); go_must (have hn2 : Aside0 (¬ w2.heap.size = g) := ⟨by have := hc2.out.size; simp at this; omega⟩); go_must (have hlw : Aside0 (w.heap.size + 2 ≤ w2.heap.size) := ⟨by have := hc2.out.size; simp at this; omega⟩); go_must (have hn02 : Aside0 (¬ w.heap.size = w2.heap.size) := ⟨by have := hlw.out; omega⟩); go_must (have hn12 : Aside0 (¬ w.heap.size + 1 = w2.heap.size) := ⟨by have := hlw.out; omega⟩); go_must (replace hR3 := Aside0.mk hR3); go_must (replace hc3 := Aside0.mk hc3); go_must (replace hb03 := Aside0.mk hb03); go_must (replace hb13 := Aside0.mk hb13); go_must (replace hb23 := Aside0.mk hb23); go_must (refine (ref_Operand W3 op).mono ?_); go_must (rintro e w4 ⟨rfl, rfl⟩); go_must (rw [ho])))
    refine bodyPost_ret (results_cellT rfl _ _ _ _ rfl _ (run_loadVar_row _ _ _ _ _ _ _ (nx_two hb03.out _ _) Try.underlying35 rfl infoI2)) rfl ?_
    have hE6 := fun x y => hR3.out.chg (nx_twoc _ _ x y) (fun k _ hk (e : k = w.heap.size) => by have := hFw.out k hk; omega)
    have hF6 := fun x y => ((hq.out.mono (fun _ _ h => h.elim)).trans hc3.out (fun _ _ h => h)).trans (nx_twoc _ _ x y) (fun k hk (e : k = w.heap.size) => by omega)
    rw [hN.out]
    exact ⟨rfl, hF6 _ _⟩

end Go.Proofs.Ythmghcjkmmhgnaa.K

namespace Go.Proofs.Ythmghcjkmmhgnaa.K
open Go.RowKit Go.Proofs.YthmghcjkmmhgnaaW.PrintWords Go.Proofs.YthmghcjkmmhgnaaW.PrintLast Go.Proofs.YthmghcjkmmhgnaaW.PrintMore
set_option linter.unusedVariables false
set_option linter.unusedSimpArgs false
set_option maxRecDepth 100000

/-- Where the document's decoding stands. -/
def RSt (w w' : World) (b g : Nat) (bs : List Int) (i : Nat) (v : Value) (acc : List Instr) : Prop :=
  RR w' (fun k => w.heap.size ≤ k ∧ k < b) g bs i 0 ∧ Kd.R kInstr 35 w' 0 (fun k => b ≤ k) v acc ∧ Chg (fun _ => False) w w' ∧ b ≤ w'.heap.size ∧ w.heap.size ≤ b ∧ w.heap.size ≤ g ∧ g < b
namespace RSt
variable {w w1 w2 : World} {b g i j : Nat} {bs : List Int} {v v' : Value} {acc acc' : List Instr}
theorem quiet (h : RSt w w1 b g bs i v acc) (hc : Chg (fun _ => False) w1 w2) : RSt w w2 b g bs i v acc := by
  obtain ⟨h1, h2, h3, h4, h5, h6, h7⟩ := h
  exact ⟨h1.chg hc (fun _ _ _ h => h), R_chg h2 hc (fun _ _ _ h => h), h3.trans hc (fun _ _ h => h), Nat.le_trans h4 hc.size, h5, h6, h7⟩
theorem lt (h : RSt w w1 b g bs i v acc) : ∀ k, (fun k => w.heap.size ≤ k ∧ k < b) k → k < w1.heap.size := fun k hk => Nat.lt_of_lt_of_le hk.2 h.2.2.2.1
theorem old (h : RSt w w1 b g bs i v acc) {k : Nat} (e : k = g) (hk : k < w.heap.size) : False := by
  have := h.2.2.2.2.2.1
  omega
theorem turned (h : RSt w w1 b g bs i v acc) (hc : Chg (fun k => k = g) w1 w2) : Chg (fun _ => False) w w2 := h.2.2.1.trans hc (fun k hk e => h.old e hk)
theorem read (h : RSt w w1 b g bs i v acc) (hc : Chg (fun k => k = g) w1 w2) (hr : RR w2 (fun k => w.heap.size ≤ k ∧ k < b) g bs j 0) : RSt w w2 b g bs j v acc := by
  obtain ⟨h1, h2, h3, h4, h5, h6, h7⟩ := h
  exact ⟨hr, R_chg h2 hc (fun k _ hk (e : k = g) => by omega), h3.trans hc (fun k hk (e : k = g) => by omega), Nat.le_trans h4 hc.size, h5, h6, h7⟩
theorem next (h : RSt w w1 b g bs i v acc) (hr : Kd.R kInstr 35 w2 0 (New (fun k => b ≤ k) w1 w2) v' acc') (hc : Chg (fun k => b ≤ k) w1 w2) : RSt w w2 b g bs i v' acc' := by
  obtain ⟨h1, h2, h3, h4, h5, h6, h7⟩ := h
  exact ⟨h1.chg hc (fun k _ hk (e : b ≤ k) => by omega), Kd.R_mono hr (fun k hk => hk.elim id (fun h => Nat.le_trans h4 h.1)), h3.trans hc (fun k hk (e : b ≤ k) => by omega), Nat.le_trans h4 hc.size, h5, h6, h7⟩
end RSt
theorem nextE {F : Nat → Prop} {g : Nat} {bs : List Int} {e : Ending} {w' : World} {c : Int} (h : NextOut F g bs e w' (.error c)) : e = .returned (.tuple #[.agg #[.int .i64 0, .int .i64 0], .int .i64 c]) := h
theorem drow_own {w W : World} {b g i : Nat} {bs : List Int} {v : Value} {acc : List Instr} (h : Aside0 (RSt w W b g bs i v acc)) : Aside0 (Kd.R kInstr 35 W 0 (New (fun k => b ≤ k) W W) v acc) := ⟨Kd.R_mono h.out.2.1 (fun k hk => .inl hk)⟩
theorem rst_start {w w0 : World} {g : Nat} {bs : List Int} (hr : RR w0 (New (fun _ => False) w w0) g bs 0 0) (hc : Chg (fun _ => False) w w0) : RSt w w0 w0.heap.size g bs 0 (.slice none 0 0) [] := by
  have hg : New (fun _ => False) w w0 g := by obtain ⟨_, _, _, h, _⟩ := hr; exact h
  have hg := hg.elim False.elim id
  exact ⟨hr.mono (fun k _ hk => hk.elim (fun h => h.elim) id), Kd.R_nil _ _ _ _ _, hc, Nat.le_refl _, hc.size, hg.1, hg.2⟩
set_option maxHeartbeats 4000000
theorem ref_Decode (w : World) (A : Option Addr) (n cap : Nat) (bs : List Int) (hC : Kd.C (Kd.int .u8) w A n bs) (hby : ∀ c ∈ bs, 0 ≤ c ∧ c < 256) (hn : bs.length ≤ 140737488355328) :
    Calls Try.prog 35 #[.slice A n cap] w fun e w' => ∃ v, e = .returned (.tuple #[v, .int .i64 (decP bs).2]) ∧ Kd.R kInstr 35 w' 0 (New (fun _ => False) w w') v (decP bs).1 ∧ Chg (fun _ => False) w w' := by
  have e0 := hC.1
  subst e0
  have hCA := Aside0.mk hC
  have hbyA := Aside0.mk hby
  clear hC hby
  go_enter Try.func35, Try.ntmps35
  go_wp2_with (go_at_call 53; go_must (refine (ref_read _ A bs.length cap bs hCA.out hbyA.out hn).mono ?_); go_must (rintro e w0 ⟨g, rfl, hr0, hc0⟩); go_must (replace hr0 := Aside0.mk hr0); go_must (replace hc0 := Aside0.mk hc0))
  have hS0 := Aside0.mk (rst_start hr0.out hc0.out)
  obtain ⟨b, hb⟩ : ∃ b, b = w0.heap.size := ⟨_, rfl⟩
  rw [← hb] at hS0
  clear hb hr0 hc0
  have hnA := Aside0.mk hn
  clear hn
  go_loopw [5, 6, 7] (fun v _ _ wr => ∃ (i : Nat) (acc : List Instr) (f : Nat), Aside0 (bs.length < f + i ∧ decGo bs f i acc = decP bs ∧ i ≤ bs.length) ∧ Aside0 (RSt w wr b g bs i v acc) ∧ acc.length ≤ 2000) (fun v _ _ _ => 2000 - slLen v)
  case atStart => exact ⟨0, [], bs.length + 1, ⟨by omega, rfl, Nat.zero_le _⟩, hS0, by simp⟩
  case round =>
    obtain ⟨i, acc, f, hD, hS, hl⟩ := hrel
    obtain ⟨A0, n0, c0, rfl⟩ := R_sl hS.out.2.1
    obtain ⟨q0, _, _⟩ := Kd.R_reads' hS.out.2.1
    subst q0
    have hi0 : i ≤ bs.length := hD.out.2.2
    by_cases hlt : i < bs.length
    · obtain ⟨f, rfl⟩ : ∃ f', f = f' + 1 := ⟨f - 1, by have := hD.out.1; omega⟩
      have hi := Aside0.mk hlt
      have dL : decide ((0 : Int) < (bs.length : Int) - (i : Int)) = true := by simp; omega
      have dL2 : decide (i < bs.length) = true := by simpa using hlt
      have dL3 : decide ((i : Int) < (bs.length : Int)) = true := by simp; omega
      have hbl : (bs.length : Int) ≤ 140737488355328 := by have := hnA.out; omega
      by_cases hmany : acc.length = 2000
      · have hfin : Aside0 (decP bs = ([], 5)) := ⟨by rw [← hD.out.2.1, decGo, if_pos hlt, if_pos hmany]⟩
        have dM : (acc.length == 2000) = true := by simpa using hmany
        have dM2 : ((acc.length : Int) == 2000) = true := by simp; omega
        clear hlt
        go_wp2_with (go_at_call 54; go_must (refine (ref_Left _ _ g i bs 0 hS.out.1).mono ?_); go_must (rintro e w1 ⟨rfl, hd1⟩); go_must (have hS1 := Aside0.mk (hS.out.quiet (chgQ hd1))); go_must (clear hd1))
        go_ret2
        rw [hfin.out]
        exact ⟨_, rfl, Kd.R_nil _ _ _ _ _, hS1.out.2.2.1⟩
      · have dM : (acc.length == 2000) = false := by simpa using hmany
        have dM2 : ((acc.length : Int) == 2000) = false := by simp; omega
        rcases hnx : nextP bs i with c | ⟨⟨op, val⟩, j⟩
        · have hcne := nextP_err hnx
          have dE : (c == 0) = false := by simpa using hcne
          have dE2 : (c != 0) = true := by simpa using hcne
          have hfin : Aside0 (decP bs = ([], c)) := ⟨by rw [← hD.out.2.1, decGo, if_pos hlt, if_neg hmany, hnx]⟩
          replace hnx := Aside0.mk hnx
          clear hlt hcne
          go_wp2_with (first | (go_at_call 54; go_must (refine (ref_Left _ _ g i bs 0 hS.out.1).mono ?_); go_must (rintro e w1 ⟨rfl, hd1⟩); go_must (have hS1 := Aside0.mk (hS.out.quiet (chgQ hd1))); go_must (clear hd1)) | (go_at_call 55; go_must (refine (ref_next _ _ g i bs hS1.out.1 hi.out hS1.out.lt).mono ?_); go_must (rintro e w2 ⟨hm2, hc2⟩); go_must (rw [hnx.out] at hm2); go_must (obtain rfl := nextE hm2); go_must (have hS2 := Aside0.mk (hS1.out.turned hc2)); go_must (clear hc2)))
          go_ret2
          rw [hfin.out]
          exact ⟨_, rfl, Kd.R_nil _ _ _ _ _, hS2.out.alloc _⟩
        · obtain ⟨n1, n2, _⟩ := nextP_form hbyA.out hlt hnx
          have hnext : Aside0 (bs.length < f + j ∧ decGo bs f j (acc ++ [⟨op, val⟩]) = decP bs ∧ j ≤ bs.length) := ⟨by have := hD.out.1; omega, by rw [← hD.out.2.1, decGo, if_pos hlt, if_neg hmany, hnx], n2⟩
          have hlen : Aside0 ((acc.length + 1) * 16 ≤ 140737488355328) := ⟨by omega⟩
          replace hnx := Aside0.mk hnx
          clear hlt n1 n2
          go_wp2_with (first | (go_at_call 54; go_must (refine (ref_Left _ _ g i bs 0 hS.out.1).mono ?_); go_must (rintro e w1 ⟨rfl, hd1⟩); go_must (have hS1 := Aside0.mk (hS.out.quiet (chgQ hd1))); go_must (clear hd1)) | (go_at_call 55; go_must (refine (ref_next _ _ g i bs hS1.out.1 hi.out hS1.out.lt).mono ?_); go_must (rintro e w2 ⟨hm2, hc2⟩); go_must (rw [hnx.out] at hm2); go_must (obtain ⟨rfl, hR2⟩ := hm2); go_must (have hS2 := Aside0.mk (hS1.out.read hc2 hR2)); go_must (clear hR2 hc2)) | (at_builtin; go_must (have hS3 := Aside0.mk (hS2.out.quiet ((Chg.refl _ w2).alloc (.cells #[.int .i64 op, .int .i64 val] 35)))); go_must (refine app1 kInstr rfl (.tmp 24) (.tmp 26) rfl Try.underlying22 infoInstr rfl (by decide) (by decide) (⟨op, val⟩ : Instr) rfl (by rw [show (w2.alloc (.cells #[.int .i64 op, .int .i64 val] 35)).heap.size = w2.heap.size + 1 from by simp]; rfl) (kInstr_M _ _ _ _) (drow_own hS3) (dec_ref _ (fun k => b ≤ k)) hlen ?_); go_must (intro v4 w4 hr4 hc4); go_must (obtain ⟨A4, n4, cap4, rfl⟩ := R_sl hr4.out); go_must (obtain ⟨q4, _, _⟩ := Kd.R_reads' hr4.out); go_must (replace q4 := Aside0.mk q4); go_must (have hS4 := Aside0.mk (hS3.out.next hr4.out hc4.out))))
          go_roundw
          case measure => (have q := q4.out; simp at q; simp [slLen]; omega)
          case rel => exact ⟨j, acc ++ [⟨op, val⟩], f, hnext, hS4, by simp; omega⟩
    · have hie : i = bs.length := by omega
      have dL : decide ((0 : Int) < (bs.length : Int) - (i : Int)) = false := by simp; omega
      have dL2 : decide (i < bs.length) = false := by simp; omega
      have dL3 : decide ((i : Int) < (bs.length : Int)) = false := by simp; omega
      have hfin : Aside0 (decP bs = (acc, 0)) := ⟨by
        rw [← hD.out.2.1]
        cases f with
        | zero => have := hD.out.1; omega
        | succ f => rw [decGo, if_neg hlt]⟩
      replace hie := Aside0.mk hie
      clear hlt
      go_wp2_with (go_at_call 54; go_must (refine (ref_Left _ _ g i bs 0 hS.out.1).mono ?_); go_must (rintro e w1 ⟨rfl, hd1⟩); go_must (have hS1 := Aside0.mk (hS.out.quiet (chgQ hd1))); go_must (clear hd1))
      go_ret2
      rw [hfin.out]
      exact ⟨_, rfl, Kd.R_mono (Kd.R_bound hS1.out.2.1) (fun k hk => .inr ⟨Nat.le_trans hS1.out.2.2.2.2.1 hk.1, hk.2.2.1⟩), hS1.out.2.2.1⟩

end Go.Proofs.Ythmghcjkmmhgnaa.K
