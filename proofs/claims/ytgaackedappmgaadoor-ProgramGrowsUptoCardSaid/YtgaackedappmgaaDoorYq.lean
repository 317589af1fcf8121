import Derived.Test.YtgaackedappmgaaDoorYp
import Derived.Test.YtgaackedappmgaaDoorQd
import Derived.IntWalk
import Derived.BigQuiet
import Derived.Laws.Rows
namespace Go.Proofs.YtgaackedappmgaaDoor.K
open Go.RowKit Go.Proofs.YtgaackedappmgaaDoorW.PrintWords Go.Proofs.YtgaackedappmgaaDoorW.PrintLast Go.Proofs.YtgaackedappmgaaDoorW.PrintMore
set_option linter.unusedVariables false
set_option linter.unusedSimpArgs false
set_option maxRecDepth 100000
def FCq (w : World) (lo : Nat) (rs : List QR) (fs : List QF) : Prop := rs.length = fs.length ∧ ∀ (k : Nat) (r : QR) (f : QF), rs[k]? = some r → fs[k]? = some f → r.name = f.name ∧ r.pars = f.pars ∧ r.locs = f.locs ∧ Oq kQI 50 w lo r.code f.code ∧ Oq kQH 54 w lo r.hnd f.hnd
theorem FCq.hit {w w' : World} {lo : Nat} {rs : List QR} {fs : List QF} {S : Nat → Prop} (h : FCq w lo rs fs) (hc : Chg S w w') (hh : HitsQ w lo S [50, 54]) : FCq w' lo rs fs :=
  ⟨h.1, fun k r f h1 h2 => by
    obtain ⟨a1, a2, a3, a4, a5⟩ := h.2 k r f h1 h2
    exact ⟨a1, a2, a3, a4.hit hc hh (by decide), a5.hit hc hh (by decide)⟩⟩
structure POwn (w : World) (lo : Nat) (vC vF : SV) (p : QP) (rs : List QR) : Prop where
  cs : Oq kQC 39 w lo vC p.consts
  fs : Oq kQR 47 w lo vF rs
  fn : FCq w lo rs p.funcs
theorem POwn.view {w : World} {lo : Nat} {vC vF : SV} {p : QP} {rs : List QR} (h : POwn w lo vC vF p rs) : vC.2.1 = p.consts.length ∧ vF.2.1 = p.funcs.length ∧ PV w vC.1 vF.1 p rs := by
  have h1 := h.cs.toC
  have h2 := h.fs.toC
  have e1 := h1.1
  have e2 := h2.1
  refine ⟨e1.symm, by rw [← e2, h.fn.1], ⟨by rw [e1]; exact h1, by rw [← h.fn.1, e2]; exact h2, fun k r f hr hf => ?_⟩⟩
  obtain ⟨a1, a2, a3, a4, a5⟩ := h.fn.2 k r f hr hf
  exact ⟨a1, a2, a3, a4.toC, a5.toC⟩
theorem POwn.hit {w w' : World} {lo : Nat} {vC vF : SV} {p : QP} {rs : List QR} {S : Nat → Prop} (h : POwn w lo vC vF p rs) (hc : Chg S w w') (hh : HitsQ w lo S [39, 47, 50, 54]) : POwn w' lo vC vF p rs :=
  ⟨h.cs.hit hc hh (by decide), h.fs.hit hc hh (by decide), h.fn.hit hc (fun b cs t hb hl he hm => hh b cs t hb hl he (List.mem_cons_of_mem _ (List.mem_cons_of_mem _ hm)))⟩
set_option maxHeartbeats 4000000
theorem ref_CopyProgram (w : World) (cA fA : Option Addr) (cc fc : Nat) (p : QP) (rs : List QR) (hP : PV w cA fA p rs) (hn : p.consts.length ≤ 1048576) (hm : p.funcs.length ≤ 1048576) (hcode : ∀ f ∈ p.funcs, f.code.length ≤ 1048576 ∧ f.hnd.length ≤ 1048576) :
    Calls Tryd.prog 14 #[.agg #[.slice cA p.consts.length cc, .slice fA p.funcs.length fc]] w fun e w' => ∃ (vC vF : SV) (rs' : List QR), e = .returned (.agg #[svl vC, svl vF]) ∧ POwn w' w.heap.size vC vF p rs' ∧ Chg (fun _ => False) w w' := by
  have hPA := Aside0.mk hP
  have hco := Aside0.mk hcode
  have hrl := hP.fs.1
  clear hP hcode
  go_enter Tryd.func14, Tryd.ntmps14
  go_wp2
  generalize hW : World.alloc (World.alloc (World.alloc w _) _) _ = W0
  have hc0 : Aside0 (Chg (fun _ => False) w W0) := ⟨by rw [← hW]; exact (((Chg.refl _ w).alloc _).alloc _).alloc _⟩
  have hb1 : Aside0 (W0.heap[w.heap.size]? = some (.cells #[.slice cA p.consts.length cc, .slice fA p.funcs.length fc] 25 (0, 0))) := ⟨by rw [← hW]; exact (((Chg.refl (fun _ => False) (w.alloc _)).alloc _).alloc _).blk (heap_alloc_new w _) (fun e => e)⟩
  have hb2 : Aside0 (W0.heap[w.heap.size + 1]? = some (.cells #[.slice none 0 0, .slice none 0 0] 25 (0, 0))) := ⟨by rw [← hW]; exact ((Chg.refl (fun _ => False) ((w.alloc _).alloc _)).alloc _).blk (heap_alloc2_new w _ _) (fun e => e)⟩
  have hb3 : W0.heap[w.heap.size + 1 + 1]? = some (.cells #[.slice none 0 0, .slice none 0 0] 25 (0, 0)) := by
    rw [← hW]
    exact heap_alloc3 w _ _ _
  obtain ⟨b3, hb3E⟩ : ∃ b3, b3 = w.heap.size + 1 + 1 := ⟨_, rfl⟩
  rw [← hb3E] at hb3 ⊢
  obtain ⟨b2, hb2E⟩ : ∃ b2, b2 = w.heap.size + 1 := ⟨_, rfl⟩
  rw [← hb2E] at hb2 ⊢
  have hbo : Aside0 (w.heap.size < b2 ∧ b2 < b3) := ⟨by omega⟩
  clear hb3E hb2E
  have hL0 : Aside0 (LQ W0 W0 b3 (none, 0, 0) (none, 0, 0) [] []) := ⟨⟨hb3, Kd.R_nil _ _ _ _ _, Kd.R_nil _ _ _ _ _, fun b h => by simp [svl, Value.ownBlock] at h, fun b h => by simp [svl, Value.ownBlock] at h, Chg.refl _ _, blk_lt hb3⟩⟩
  clear hW hb3
  go_loopw [4] (fun ix wr => ∃ (k n c : Nat) (A : Option Addr), ix = .int .i64 k ∧ k ≤ p.consts.length ∧ Aside0 (LQ W0 wr b3 (A, n, c) (none, 0, 0) (p.consts.take k) [])) (fun ix _ => p.consts.length - (intOf ix).toNat)
  case atStart => exact ⟨0, 0, 0, none, rfl, by omega, hL0⟩
  case round =>
    obtain ⟨k, n, c, A, rfl, hk, hL⟩ := hrel
    have hbp := hL.out.ch.blk hb1.out (by have := hbo.out; omega)
    obtain ⟨p0, p1⟩ : wr.cell? ⟨w.heap.size, 0, none⟩ = some (.slice cA p.consts.length cc) ∧ wr.cell? ⟨w.heap.size, 1, none⟩ = some (.slice fA p.funcs.length fc) := ⟨blk_cell hbp 0, blk_cell hbp 1⟩
    obtain ⟨y0, y1⟩ : wr.cell? ⟨b3, 0, none⟩ = some (.slice A n c) ∧ wr.cell? ⟨b3, 1, none⟩ = some (.slice none 0 0) := ⟨blk_cell hL.out.q 0, blk_cell hL.out.q 1⟩
    clear hbp
    by_cases hlt : k < p.consts.length
    · have hk0 : (0 : Int) ≤ k := by omega
      have hk1 : (k : Int) < p.consts.length := by omega
      have hCw : Aside0 (Chg (fun _ => False) w wr) := ⟨hc0.out.trans hL.out.ch (fun b hb e => by have := hbo.out; omega)⟩
      obtain ⟨ad, kd1, n1, t1, e1, e2, x0w, x1w, x2w⟩ := kQC_at hPA.out.cs k hlt
      subst e1
      have x0 := cell_keepQ hCw.out (fun h => h) x0w
      have x1 := cell_keepQ hCw.out (fun h => h) x1w
      have x2 := cell_keepQ hCw.out (fun h => h) x2w
      have ht : Aside0 (p.consts.take (k + 1) = p.consts.take k ++ [⟨kd1, n1, t1⟩]) := ⟨by rw [List.take_succ_eq_append_getElem hlt]; rw [List.getElem?_eq_getElem hlt] at e2; injection e2 with e2; rw [e2]⟩
      clear e2
      have hl : Aside0 (((p.consts.take k).length + 1) * 32 ≤ 140737488355328) := ⟨by rw [List.length_take]; omega⟩
      have hRd := own_new hL.out.rc
      have hCd : Aside0 (Chg (fun b => (svl (A, n, c)).ownBlock = some b) wr wr.drew) := ⟨(Chg.refl _ _).drew⟩
      have hno0 : Aside0 (¬ (svl (A, n, c)).ownBlock = some b3) := ⟨fun e => by have := hL.out.oc _ e; have := hL.out.lt; have := hbo.out; omega⟩
      have hno1 : Aside0 (¬ (svl (A, n, c)).ownBlock = some w.heap.size) := ⟨fun e => by have := hL.out.oc _ e; have := hL.out.lt; have := hbo.out; omega⟩
      have hno2 : Aside0 (¬ (svl (A, n, c)).ownBlock = some (ad.add (k * 3)).block) := ⟨fun e => by have h1 := World.block_lt_of_cell? w _ x0w; have h2 := hL.out.oc _ e; have h3 := hc0.out.size; omega⟩
      clear x0w x1w x2w
      go_wp2
      refine start_ (n := 11) (S := fun w' => w'.cell? ⟨b3, 0, none⟩ = some (.slice A n c) ∧ w'.cell? ⟨w.heap.size, 0, none⟩ = some (.slice (some ad) p.consts.length cc) ∧ w'.cell? (ad.add (k * 3)) = some (.int .i64 kd1) ∧ w'.cell? ⟨(ad.add (k * 3)).block, (ad.add (k * 3)).off + 1, none⟩ = some (.int .i64 n1) ∧ w'.cell? ⟨(ad.add (k * 3)).block, (ad.add (k * 3)).off + 2, none⟩ = some (.string t1)) (ds := [10]) #[false, false, false, false, false, false, false, false, false, false, false] (by kernel_rfl) rfl rfl ⟨y0, p0, x0, x1, x2⟩ (fun hHeld => ?_)
      refine pure_ (i := 0) (N := some 14) (v := ?_) (a' := ?_) #[true, false, false, false, false, false, false, false, false, false, false] rfl rfl (by kernel_rfl) (fun _ _ _ h => h) (Or.inl ⟨by rfl, ?_⟩) ?_ ?_
      rotate_left
      · intro w'
        go_simp
        with_reducible rfl
      rotate_left
      · simp only [Act.put, List.setIfInBounds_toArray, List.set_cons_zero, List.set_cons_succ, i64_w, i32_w]
        rfl
      refine pure_ (i := 2) (N := some 16) (v := ?_) (a' := ?_) #[true, false, true, false, false, false, false, false, false, false, false] rfl rfl (by kernel_rfl) (fun _ _ _ h => h) (Or.inl ⟨by rfl, ?_⟩) ?_ ?_
      rotate_left
      · intro w'
        go_simp
        with_reducible rfl
      rotate_left
      · simp only [Act.put, List.setIfInBounds_toArray, List.set_cons_zero, List.set_cons_succ, i64_w, i32_w]
        rfl
      refine pure_ (i := 4) (N := some 18) (v := ?_) (a' := ?_) #[true, false, true, false, true, false, false, false, false, false, false] rfl rfl (by kernel_rfl) (fun _ _ _ h => h) (Or.inl ⟨by rfl, ?_⟩) ?_ ?_
      rotate_left
      · intro w'
        go_simp
        with_reducible rfl
      rotate_left
      · simp only [Act.put, List.setIfInBounds_toArray, List.set_cons_zero, List.set_cons_succ, i64_w, i32_w]
        rfl
      refine take_ (i := 1) (N := some 15) (v := ?_) (a' := ?_) #[true, true, true, false, true, false, false, false, false, false, false] rfl rfl (by kernel_rfl) (fun _ _ _ h => h) (Or.inl ⟨by rfl, ?_⟩) hHeld ?_ ?_
      rotate_left
      · rintro w' ⟨s0, s1, s2, s3, s4⟩
        go_simp
        with_reducible rfl
      rotate_left
      · simp only [Act.put, List.setIfInBounds_toArray, List.set_cons_zero, List.set_cons_succ, i64_w, i32_w]
        rfl
      refine take_ (i := 3) (N := some 17) (v := ?_) (a' := ?_) #[true, true, true, true, true, false, false, false, false, false, false] rfl rfl (by kernel_rfl) (fun _ _ _ h => h) (Or.inl ⟨by rfl, ?_⟩) hHeld ?_ ?_
      rotate_left
      · rintro w' ⟨s0, s1, s2, s3, s4⟩
        go_simp
        with_reducible rfl
      rotate_left
      · simp only [Act.put, List.setIfInBounds_toArray, List.set_cons_zero, List.set_cons_succ, i64_w, i32_w]
        rfl
      refine pure_ (i := 5) (N := some 19) (v := ?_) (a' := ?_) #[true, true, true, true, true, true, false, false, false, false, false] rfl rfl (by kernel_rfl) (fun _ _ _ h => h) (Or.inl ⟨by rfl, ?_⟩) ?_ ?_
      rotate_left
      · intro w'
        go_simp
        with_reducible rfl
      rotate_left
      · simp only [Act.put, List.setIfInBounds_toArray, List.set_cons_zero, List.set_cons_succ, i64_w, i32_w]
        rfl
      refine take_ (i := 6) (N := some 20) (v := ?_) (a' := ?_) #[true, true, true, true, true, true, true, false, false, false, false] rfl rfl (by kernel_rfl) (fun _ _ _ h => h) (Or.inl ⟨by rfl, ?_⟩) hHeld ?_ ?_
      rotate_left
      · rintro w' ⟨s0, s1, s2, s3, s4⟩
        go_simp
        with_reducible rfl
      rotate_left
      · simp only [Act.put, List.setIfInBounds_toArray, List.set_cons_zero, List.set_cons_succ, i64_w, i32_w]
        rfl
      refine one_ (i := 7) (N := some 21) #[true, true, true, true, true, true, true, true, false, false, false] rfl rfl (by kernel_rfl) (by decide) (fun K hK => ?_)
      refine value_ (w1 := ?_) (v := ?_) (by rfl) rfl ?_ ?_
      rotate_left 2
      · go_simp
        constructor
        · rfl
        · rfl
      refine hK.out _ _ ⟨(cellQ hHeld.1 _), (cellQ hHeld.2.1 _), (cellQ hHeld.2.2.1 _), (cellQ hHeld.2.2.2.1 _), (cellQ hHeld.2.2.2.2 _)⟩ (fun hHeld => ?_)
      clear hK K
      refine norm_ (a' := ?_) ?_ ?_
      rotate_left
      · show Act.put _ (some 21) _ = _
        simp only [Act.put, List.setIfInBounds_toArray, List.set_cons_zero, List.set_cons_succ, i64_w, i32_w]
        rfl
      refine one_ (i := 8) (N := some 22) #[true, true, true, true, true, true, true, true, true, false, false] rfl rfl (by kernel_rfl) (by decide) (fun K hK => ?_)
      refine app1T kQC (by rfl) (.tmp 15) (.tmp 21) (by rfl) Tryd.underlying22 infoQC rfl (by decide) (by decide) ⟨kd1, n1, t1⟩ (by rfl) (by rfl) (kQC_M _ _ _ _) hRd hCd hl ?_
      intro v1 w1 hr2 hc2
      obtain ⟨A2, n2, c2, rfl⟩ := R_sl hr2.out
      have fz := blk_frozen (hc2.out.blk hL.out.q hno0.out) 0
      refine hK.out _ _ ⟨(cell_keepQ hc2.out hno0.out y0), (cell_keepQ hc2.out hno1.out p0), (cell_keepQ hc2.out hno2.out x0), (cell_keepQ hc2.out hno2.out x1), (cell_keepQ hc2.out hno2.out x2)⟩ (fun hHeld => ?_)
      clear hK K
      refine norm_ (a' := ?_) ?_ ?_
      rotate_left
      · show Act.put _ (some 22) _ = _
        simp only [Act.put, List.setIfInBounds_toArray, List.set_cons_zero, List.set_cons_succ, i64_w, i32_w]
        rfl
      refine pure_ (i := 9) (N := some 23) (v := ?_) (a' := ?_) #[true, true, true, true, true, true, true, true, true, true, false] rfl rfl (by kernel_rfl) (fun _ _ _ h => h) (Or.inl ⟨by rfl, ?_⟩) ?_ ?_
      rotate_left
      · intro w'
        go_simp
        with_reducible rfl
      rotate_left
      · simp only [Act.put, List.setIfInBounds_toArray, List.set_cons_zero, List.set_cons_succ, i64_w, i32_w]
        rfl
      refine last_ (i := 10) (N := none) #[true, true, true, true, true, true, true, true, true, true, true] rfl rfl (by kernel_rfl) (by decide) (fun K hK => ?_)
      refine skip_ (w1 := ?_) (by rfl) rfl ?_ ?_
      rotate_left
      · go_simp
        rfl
      refine hK.out _ _ ?_
      clear hK K
      refine done_ (by kernel_rfl) ?_
      go_wp2
      go_roundw
      case measure => first | (simp [intOf]; done) | (simp [intOf]; omega)
      case rel => exact ⟨k + 1, n2, c2, A2, by go_num, by omega, ⟨by rw [ht.out]; exact hL.out.addC (v' := (A2, n2, c2)) hc2.out hr2.out⟩⟩
    · obtain rfl : k = p.consts.length := by omega
      have hk1 : ¬ ((p.consts.length : Int) < p.consts.length) := by omega
      have hL2 : Aside0 (LQ W0 wr b3 (A, n, c) (none, 0, 0) p.consts []) := ⟨by have h := hL.out; rw [List.take_length] at h; exact h⟩
      clear hL hlt
      go_wp2
      clear p0 p1 y0 y1 hk1
      obtain ⟨wo, hwo⟩ : ∃ wo : World, wo = wr := ⟨wr, rfl⟩
      subst hwo
      go_loopw [5] (fun ix wr => ∃ (k m d : Nat) (B : Option Addr) (ms : List QR), ix = .int .i64 k ∧ k ≤ p.funcs.length ∧ Aside0 (LQ W0 wr b3 (A, n, c) (B, m, d) p.consts ms) ∧ Aside0 (FCq wr W0.heap.size ms (p.funcs.take k))) (fun ix _ => p.funcs.length - (intOf ix).toNat)
      case atStart => exact ⟨0, 0, 0, none, [], rfl, by omega, hL2, ⟨rfl, fun k r f h => by simp at h⟩⟩
      case round =>
        obtain ⟨k, m, d, B, ms, rfl, hk, hL, hF⟩ := hrel
        have hbp := hL.out.ch.blk hb1.out (by have := hbo.out; omega)
        have p1 : wr.cell? ⟨w.heap.size, 1, none⟩ = some (.slice fA p.funcs.length fc) := blk_cell hbp 1
        clear hbp
        by_cases hlt : k < p.funcs.length
        · have hk0 : (0 : Int) ≤ k := by omega
          have hk1 : (k : Int) < p.funcs.length := by omega
          have hCw : Aside0 (Chg (fun _ => False) w wr) := ⟨hc0.out.trans hL.out.ch (fun b hb e => by have := hbo.out; omega)⟩
          obtain ⟨f, hfx⟩ : ∃ f, p.funcs[k]? = some f := ⟨_, List.getElem?_eq_getElem hlt⟩
          obtain ⟨fd, ⟨nm, pa, lo, ⟨kA, kN, kC⟩, ⟨hA, hN, hC⟩⟩, e1, e2, x0, x1, x2, x3, x4⟩ := raw_at (hPA.out.below (hCw.out.below (fun _ _ h => h))).fs k hlt
          obtain ⟨r1, r2, r3, r4, r5⟩ := (hPA.out.below (hCw.out.below (fun _ _ h => h))).raw k _ f e2 hfx
          have r6 := r4.1
          have r7 := r5.1
          simp only at r1 r2 r3 r6 r7 x0 x1 x2 x3 x4
          subst e1 r1 r2 r3 r6 r7
          have hfk := Aside0.mk r4
          have hfh := Aside0.mk r5
          have hfb := Aside0.mk (hco.out f (List.mem_of_getElem? hfx))
          have hfA := Aside0.mk hfx
          have hml : Aside0 (ms.length = k) := ⟨by rw [hF.out.1, List.length_take]; omega⟩
          clear e2 hfx r4 r5
          go_upto_region 10 with (go_at_call 33; go_must (refine (ref_CopyFunctionQ _ f kA hA kC hC hfk.out hfh.out hfb.out.1 hfb.out.2).mono ?_); go_must (rintro e w2 ⟨⟨iA, iN, iC⟩, ⟨jA, jN, jC⟩, rfl, oi1, ok1, hc1⟩); go_must (simp only [svl]); go_must (replace hc1 := Aside0.mk hc1); go_must (replace oi1 := Aside0.mk oi1); go_must (replace ok1 := Aside0.mk ok1))
          (try simp only [Act.put, List.setIfInBounds_toArray, List.set_cons_zero, List.set_cons_succ])
          generalize hW : World.alloc w2 _ = W3
          have B3 : Aside0 (W3.heap[w2.heap.size]? = some (.cells #[.string f.name, .int .i64 f.pars, .int .i64 f.locs, .slice iA iN iC, .slice jA jN jC] 47)) := ⟨by rw [← hW]; exact heap_alloc_new w2 _⟩
          have hz9 : Aside0 (Chg (fun _ => False) w2 W3) := ⟨by rw [← hW]; exact cg⟩
          clear hW
          clear x0 x1 x2 x3 x4 p1
          have hz3 : Aside0 (Chg (fun _ => False) wr W3) := ⟨hc1.out.trans hz9.out (fun _ _ h => h)⟩
          have hL3 : Aside0 (LQ W0 W3 b3 (A, n, c) (B, m, d) p.consts ms) := ⟨hL.out.chg hz3.out⟩
          have hF3 := Aside0.mk (hF.out.hit hz3.out (HitsQ.no))
          have oi3 := Aside0.mk ((oi1.out.chg hz9.out (fun _ _ h => h)).mono (Nat.le_refl _))
          have ok3 := Aside0.mk ((ok1.out.chg hz9.out (fun _ _ h => h)).mono (Nat.le_refl _))
          have hlo : Aside0 (W0.heap.size ≤ wr.heap.size) := ⟨hL.out.ch.size⟩
          have y1 : W3.cell? ⟨b3, 1, none⟩ = some (.slice B m d) := blk_cell hL3.out.q 1
          have g0 : W3.cell? ⟨w2.heap.size, 0, none⟩ = some (.string f.name) := blk_cell B3.out 0
          have g1 : W3.cell? ⟨w2.heap.size, 1, none⟩ = some (.int .i64 f.pars) := blk_cell B3.out 1
          have g2 : W3.cell? ⟨w2.heap.size, 2, none⟩ = some (.int .i64 f.locs) := blk_cell B3.out 2
          have g3 : W3.cell? ⟨w2.heap.size, 3, none⟩ = some (.slice iA iN iC) := blk_cell B3.out 3
          have g4 : W3.cell? ⟨w2.heap.size, 4, none⟩ = some (.slice jA jN jC) := blk_cell B3.out 4
          have hl : Aside0 ((ms.length + 1) * 80 ≤ 140737488355328) := ⟨by rw [hml.out]; omega⟩
          have hRd := own_new0 hL3.out.rf
          have hCd : Aside0 (Chg (fun b => (svl (B, m, d)).ownBlock = some b) W3 W3) := ⟨Chg.refl _ _⟩
          have hno0 : Aside0 (¬ (svl (B, m, d)).ownBlock = some b3) := ⟨fun e => by have := hL3.out.of _ e; have := hL3.out.lt; omega⟩
          clear oi1 ok1 hz9 hL hF
          go_wp2_with (at_builtin; go_must (refine app1 kQR rfl (.tmp 38) (.tmp 40) rfl Tryd.underlying23 infoQR rfl (by decide) (by decide) ⟨f.name, f.pars, f.locs, (iA, iN, iC), (jA, jN, jC)⟩ rfl rfl (kQR_M _ _ _ _) hRd hCd hl ?_); go_must (intro v1 w5 hr2 hc2); go_must (obtain ⟨A2, n2, c2, rfl⟩ := R_sl hr2.out); go_must (have hbq := hc2.out.blk hL3.out.q hno0.out); go_must (have y1' : w5.cell? ⟨b3, 1, none⟩ = some (.slice B m d) := blk_cell hbq 1); go_must (have fz := blk_frozen hbq 1); go_must (clear hbq))
          go_roundw
          case measure => first | (simp [intOf]; done) | (simp [intOf]; omega)
          case rel =>
            have hs : Chg (fun b => b = b3) w5 (w5.setCell ⟨b3, 1, none⟩ (.slice A2 n2 c2)) := (Chg.refl (fun b => b = b3) w5).setCell (p := ⟨b3, 1, none⟩) (fun _ => rfl) _
            have hb3q := hc2.out.blk hL3.out.q hno0.out
            have hof : Oq kQR 47 W3 W0.heap.size (B, m, d) ms := ⟨hL3.out.rf, hL3.out.of⟩
            have key : ∀ {α : Type} {kd : Kd α} {e : TypeId} {v : SV} {xs : List α}, Oq kd e W3 W0.heap.size v xs → e ≠ 47 → e ≠ 25 → Oq kd e (w5.setCell ⟨b3, 1, none⟩ (.slice A2 n2 c2)) W0.heap.size v xs := fun ho h1 h2 => by
              have h5 := ho.chg hc2.out (fun b hb hS => Oq.ne ho hof h1 b hb hS)
              exact h5.chg hs (fun b hb e => Oq.ne_blk h5 hb3q h2 hb e)
            refine ⟨k + 1, n2, c2, A2, ms ++ [(⟨f.name, f.pars, f.locs, (iA, iN, iC), (jA, jN, jC)⟩ : QR)], by go_num, by omega, ⟨hL3.out.addF (v' := (A2, n2, c2)) hc2.out hr2.out⟩, ⟨?_⟩⟩
            have hFn : FCq (w5.setCell ⟨b3, 1, none⟩ (.slice A2 n2 c2)) W0.heap.size ms (p.funcs.take k) := ⟨hF3.out.1, fun j r g h1 h2 => by
              obtain ⟨a1, a2, a3, a4, a5⟩ := hF3.out.2 j r g h1 h2
              exact ⟨a1, a2, a3, key a4 (by decide) (by decide), key a5 (by decide) (by decide)⟩⟩
            exact pair_stepQ (R := fun (r : QR) (f : QF) => r.name = f.name ∧ r.pars = f.pars ∧ r.locs = f.locs ∧ Oq kQI 50 (w5.setCell ⟨b3, 1, none⟩ (.slice A2 n2 c2)) W0.heap.size r.code f.code ∧ Oq kQH 54 (w5.setCell ⟨b3, 1, none⟩ (.slice A2 n2 c2)) W0.heap.size r.hnd f.hnd) hFn hfA.out ⟨rfl, rfl, rfl, key (oi3.out.mono hlo.out) (by decide) (by decide), key (ok3.out.mono hlo.out) (by decide) (by decide)⟩
        · obtain rfl : k = p.funcs.length := by omega
          have hk1 : ¬ ((p.funcs.length : Int) < p.funcs.length) := by omega
          have hFl : Aside0 (FCq wr W0.heap.size ms p.funcs) := ⟨by have h := hF.out; rw [List.take_length] at h; exact h⟩
          have hb2r := hL.out.ch.blk hb2.out (by have := hbo.out; omega)
          have y0 : wr.cell? ⟨b3, 0, none⟩ = some (.slice A n c) := blk_cell hL.out.q 0
          have y1 : wr.cell? ⟨b3, 1, none⟩ = some (.slice B m d) := blk_cell hL.out.q 1
          have t0 := blk_cell hb2r 0
          have t1 := blk_cell hb2r 1
          have u0 := blk_frozen hb2r 0
          have u1 := blk_frozen hb2r 1
          replace hb2r := Aside0.mk hb2r
          clear hF
          go_wp2
          (try simp only [Exit.inBlock, Exit.then])
          refine bodyPost_ret (results_cell1 rfl _ _ _ _ rfl _ (run_loadVar_row _ _ _ _ _ _ _ (blk_set (blk_set hb2r.out 0 (.slice A n c)) 1 (.slice B m d)) Tryd.underlying25 rfl (by kernel_rfl))) rfl ?_
          have hfin := (Chg.setCell (Chg.setCell (Chg.refl (fun k => k = b2) wr) (p := ⟨b2, 0, none⟩) (fun _ => rfl) (.slice A n c)) (p := ⟨b2, 1, none⟩) (fun _ => rfl) (.slice B m d))
          have hlow : w.heap.size ≤ W0.heap.size := hc0.out.size
          have hob : b2 < W0.heap.size := by have := hL.out.lt; have := hbo.out; omega
          refine ⟨A, n, c, B, m, d, rfl, ⟨ms, ?_⟩, (hc0.out.trans hL.out.ch (fun b hb e => by have := hbo.out; omega)).trans hfin (fun b hb e => by have := hbo.out; omega)⟩
          have hown : POwn wr W0.heap.size (A, n, c) (B, m, d) p ms := ⟨⟨hL.out.rc, hL.out.oc⟩, ⟨hL.out.rf, hL.out.of⟩, hFl.out⟩
          have h5 := hown.hit hfin (HitsQ.old (fun b e => by omega))
          exact ⟨h5.cs.mono hlow, h5.fs.mono hlow, ⟨h5.fn.1, fun k r f h1 h2 => by
            obtain ⟨a1, a2, a3, a4, a5⟩ := h5.fn.2 k r f h1 h2
            exact ⟨a1, a2, a3, a4.mono hlow, a5.mono hlow⟩⟩⟩
end Go.Proofs.YtgaackedappmgaaDoor.K
