import Derived.Test.YtgaackedappmgaaDoorQb
import Derived.Test.YtgaackedappmgaaDoorQx
import Derived.Test.YtgaackedappmgaaDoorCe
import Derived.Test.YtgaackedappmgaaDoorGy
import Derived.IntWalk
import Derived.BigQuiet
import Derived.Laws.Rows
namespace Go.Proofs.YtgaackedappmgaaDoor.K
open Go.RowKit Go.Proofs.YtgaackedappmgaaDoorW.PrintWords Go.Proofs.YtgaackedappmgaaDoorW.PrintLast Go.Proofs.YtgaackedappmgaaDoorW.PrintMore
set_option linter.unusedVariables false
set_option linter.unusedSimpArgs false
set_option maxRecDepth 100000
def Oq {α : Type} (kd : Kd α) (e : TypeId) (w : World) (lo : Nat) (v : SV) (xs : List α) : Prop := kd.R e w 0 (fun k => some k = (svl v).ownBlock) (svl v) xs ∧ ∀ b, (svl v).ownBlock = some b → lo ≤ b
theorem Oq.of_new {α : Type} {kd : Kd α} {e : TypeId} {a w : World} {lo : Nat} {v : SV} {xs : List α} (hE : kd.E = []) (h : kd.R e w 0 (New (fun _ => False) a w) (svl v) xs) (hl : lo ≤ a.heap.size) : Oq kd e w lo v xs :=
  ⟨Kd.R_tight hE h, fun b hb => by
    rcases h.1 b hb with h | h
    · exact h.elim
    · have := h.1; omega⟩
theorem Oq.chg {α : Type} {kd : Kd α} {e : TypeId} {w w' : World} {lo : Nat} {v : SV} {xs : List α} {S : Nat → Prop} (h : Oq kd e w lo v xs) (hc : Chg S w w') (hS : ∀ b, (svl v).ownBlock = some b → S b → False) : Oq kd e w' lo v xs :=
  ⟨R_chg h.1 hc (fun b _ hb => hS b hb.symm), h.2⟩
theorem Oq.mono {α : Type} {kd : Kd α} {e : TypeId} {w : World} {lo lo' : Nat} {v : SV} {xs : List α} (h : Oq kd e w lo v xs) (hl : lo' ≤ lo) : Oq kd e w lo' v xs := ⟨h.1, fun b hb => Nat.le_trans hl (h.2 b hb)⟩
theorem Oq.toC {α : Type} {kd : Kd α} {e : TypeId} {w : World} {lo : Nat} {v : SV} {xs : List α} (h : Oq kd e w lo v xs) : kd.C w v.1 v.2.1 xs := R_toC h.1
theorem Oq.lt {α : Type} {kd : Kd α} {e : TypeId} {w : World} {lo : Nat} {v : SV} {xs : List α} (h : Oq kd e w lo v xs) (b : Nat) (hb : (svl v).ownBlock = some b) : b < w.heap.size := by
  obtain ⟨c, hc⟩ := Kd.R_typed h.1 b hb
  exact blk_lt hc
theorem Oq.ne {α β : Type} {kd : Kd α} {kd' : Kd β} {e e' : TypeId} {w : World} {lo lo' : Nat} {v v' : SV} {xs : List α} {ys : List β} (h : Oq kd e w lo v xs) (h' : Oq kd' e' w lo' v' ys) (he : e ≠ e') (b : Nat) (hb : (svl v).ownBlock = some b) (hb' : (svl v').ownBlock = some b) : False := by
  obtain ⟨c1, e1⟩ := Kd.R_typed h.1 b hb
  obtain ⟨c2, e2⟩ := Kd.R_typed h'.1 b hb'
  rw [e1] at e2
  injection e2 with e2
  injection e2 with _ e2
  exact he e2
theorem Oq.app {α : Type} {kd : Kd α} {e : TypeId} {w w1 : World} {lo : Nat} {v v1 : SV} {xs ys : List α} (hE : kd.E = []) (h : Oq kd e w lo v xs) (hr : kd.R e w1 0 (New (fun b => (svl v).ownBlock = some b) w w1) (svl v1) ys) (hl : lo ≤ w.heap.size) : Oq kd e w1 lo v1 ys :=
  ⟨Kd.R_tight hE hr, fun b hb => by
    rcases hr.1 b hb with h1 | h1
    · exact h.2 b h1
    · have := h1.1; omega⟩
theorem Oq.nil {α : Type} (kd : Kd α) (e : TypeId) (w : World) (lo : Nat) : Oq kd e w lo (none, 0, 0) ([] : List α) := ⟨Kd.R_nil _ _ _ _ _, fun b hb => by simp [svl, Value.ownBlock] at hb⟩
def HitsQ (w : World) (lo : Nat) (S : Nat → Prop) (ts : List TypeId) : Prop := ∀ b cs t, S b → lo ≤ b → w.heap[b]? = some (.cells cs t (0, 0)) → t ∉ ts
theorem HitsQ.no {w : World} {lo : Nat} {ts : List TypeId} : HitsQ w lo (fun _ => False) ts := fun _ _ _ h => h.elim
theorem HitsQ.old {w : World} {lo : Nat} {S : Nat → Prop} {ts : List TypeId} (h : ∀ b, S b → b < lo) : HitsQ w lo S ts := fun b _ _ hb hl => absurd (h b hb) (by omega)
theorem HitsQ.own {α : Type} {kd : Kd α} {e : TypeId} {w : World} {lo lo' : Nat} {v : SV} {xs : List α} {ts : List TypeId} (h : Oq kd e w lo' v xs) (he : e ∉ ts) : HitsQ w lo (fun b => (svl v).ownBlock = some b) ts := fun b cs t hb _ hc => by
  obtain ⟨c1, e1⟩ := Kd.R_typed h.1 b hb
  rw [e1] at hc
  injection hc with hc
  injection hc with _ hc
  rw [← hc]
  exact he
theorem Oq.hit {α : Type} {kd : Kd α} {e : TypeId} {w w' : World} {lo : Nat} {v : SV} {xs : List α} {S : Nat → Prop} {ts : List TypeId} (h : Oq kd e w lo v xs) (hc : Chg S w w') (hh : HitsQ w lo S ts) (he : e ∈ ts) : Oq kd e w' lo v xs :=
  h.chg hc (fun b hb hS => by
    obtain ⟨c1, e1⟩ := Kd.R_typed h.1 b hb
    exact hh b c1 e hS (h.2 b hb) e1 he)
theorem pair_stepQ {α β : Type} {rs : List α} {xs : List β} {R : α → β → Prop} {k : Nat} {r : α} {x : β} (h : rs.length = (xs.take k).length ∧ ∀ (j : Nat) (a : α) (b : β), rs[j]? = some a → (xs.take k)[j]? = some b → R a b) (hk : xs[k]? = some x) (hr : R r x) :
    (rs ++ [r]).length = (xs.take (k + 1)).length ∧ ∀ (j : Nat) (a : α) (b : β), (rs ++ [r])[j]? = some a → (xs.take (k + 1))[j]? = some b → R a b := by
  have hkl := (List.getElem?_eq_some_iff.1 hk).1
  have hrk : rs.length = k := by rw [h.1, List.length_take]; omega
  refine ⟨by rw [List.length_append, List.length_take, hrk]; simp; omega, fun j a b ha hb => ?_⟩
  rcases Nat.lt_or_ge j k with hj | hj
  · rw [List.getElem?_append_left (by omega)] at ha
    rw [List.getElem?_take_of_lt (by omega)] at hb
    exact h.2 j a b ha (by rw [List.getElem?_take_of_lt hj]; exact hb)
  · rw [List.getElem?_append_right (by omega)] at ha
    have hj0 : j - rs.length = 0 := by
      have := (List.getElem?_eq_some_iff.1 ha).1
      simp at this
      omega
    rw [hj0] at ha
    simp at ha
    have hjk : j = k := by omega
    subst hjk
    rw [List.getElem?_take_of_lt (by omega), hk] at hb
    injection hb with hb
    subst ha hb
    exact hr
theorem Oq.ne_blk {α : Type} {kd : Kd α} {e t : TypeId} {w : World} {lo j g : Nat} {v : SV} {xs : List α} {cs : Array Value} (h : Oq kd e w lo v xs) (hc : w.heap[g]? = some (.cells cs t (0, 0))) (hd : e ≠ t) (hj : (svl v).ownBlock = some j) : j ≠ g := fun e => by
  subst e
  obtain ⟨c1, e1⟩ := Kd.R_typed h.1 j hj
  rw [e1] at hc
  injection hc with hc
  injection hc with _ hc
  exact hd hc
theorem ref_CopyInstrsQ (w : World) (A : Option Addr) (n cap : Nat) (l : List QI) (hC : Kd.C kQI w A n l) (hn : l.length ≤ 1048576) :
    Calls Tryd.prog 46 #[.slice A n cap] w fun e w' => ∃ v, e = .returned v ∧ Kd.R kQI 50 w' 0 (New (fun _ => False) w w') v l ∧ Chg (fun _ => False) w w' := by
  have e0 := hC.1
  subst e0
  have hCA := Aside0.mk hC
  clear hC
  go_enter Tryd.func46, Tryd.ntmps46
  go_wp2
  go_loopw [3, 4] (fun v i wr => ∃ k : Nat, i = .int .i64 k ∧ k ≤ l.length ∧ Aside0 (Kd.R kQI 50 wr 0 (New (fun _ => False) w wr) v (l.take k)) ∧ Aside0 (Chg (fun _ => False) w wr)) (fun _ i _ => l.length - (intOf i).toNat)
  case atStart => exact ⟨0, rfl, by omega, ⟨Kd.R_nil _ _ _ _ _⟩, ⟨Chg.refl _ _⟩⟩
  case round =>
    obtain ⟨k, rfl, hk, hR, hCh⟩ := hrel
    by_cases hlt : k < l.length
    · obtain ⟨ad, op1, a1, e1, e2, x0, x1⟩ := kQI_at (C_chg hCA.out (hCh.out.below (fun _ _ h => h))) k hlt
      subst e1
      have hk0 : (0 : Int) ≤ k := by omega
      have hk1 : (k : Int) < l.length := by omega
      have ht : Aside0 (l.take (k + 1) = l.take k ++ [⟨op1, a1⟩]) := ⟨by rw [List.take_succ_eq_append_getElem hlt]; rw [List.getElem?_eq_getElem hlt] at e2; injection e2 with e2; rw [e2]⟩
      clear e2
      have hl : Aside0 (((l.take k).length + 1) * 16 ≤ 140737488355328) := ⟨by rw [List.length_take]; omega⟩
      go_wp2_with (at_builtin; go_must (refine app1 kQI rfl (.tmp 11) (.tmp 16) rfl Tryd.underlying44 infoQI rfl (by decide) (by decide) ⟨op1, a1⟩ rfl rfl (kQI_M _ _ _ _) hR hCh hl ?_); go_must (intro v1 w1 hr1 hc1))
      go_roundw
      case measure => first | (simp [intOf]; done) | (simp [intOf]; omega)
      case rel => exact ⟨k + 1, by go_num, by omega, ⟨by rw [ht.out]; exact hr1.out⟩, hc1⟩
    · obtain rfl : k = l.length := by omega
      go_wp2
      go_ret
      have h := hR.out
      rw [List.take_length] at h
      exact ⟨_, rfl, h, hCh.out⟩
set_option maxHeartbeats 4000000
theorem ref_CopyFunctionQ (w : World) (f : QF) (kA hA : Option Addr) (kC hC : Nat) (h1 : Kd.C kQI w kA f.code.length f.code) (h2 : Kd.C kQH w hA f.hnd.length f.hnd) (hn1 : f.code.length ≤ 1048576) (hn2 : f.hnd.length ≤ 1048576) :
    Calls Tryd.prog 33 #[.agg #[.string f.name, .int .i64 f.pars, .int .i64 f.locs, .slice kA f.code.length kC, .slice hA f.hnd.length hC]] w fun e w' => ∃ v1 v2 : SV, e = .returned (.agg #[.string f.name, .int .i64 f.pars, .int .i64 f.locs, svl v1, svl v2]) ∧ Oq kQI 50 w' w.heap.size v1 f.code ∧ Oq kQH 54 w' w.heap.size v2 f.hnd ∧ Chg (fun _ => False) w w' := by
  have h1A := Aside0.mk h1
  have h2A := Aside0.mk h2
  clear h1 h2
  go_enter Tryd.func33, Tryd.ntmps33
  go_upto_region 2 with (fail)
  (try simp only [Act.put, List.setIfInBounds_toArray, List.set_cons_zero, List.set_cons_succ])
  generalize hW : World.alloc (World.alloc (World.alloc w _) _) _ = W0
  have B1 : Aside0 (W0.heap[w.heap.size]? = some (.cells #[.string f.name, .int .i64 f.pars, .int .i64 f.locs, .slice kA f.code.length kC, .slice hA f.hnd.length hC] 47)) := ⟨by rw [← hW]; exact (((Chg.refl (fun _ => False) (w.alloc _)).alloc _).alloc _).blk (heap_alloc_new w _) (fun e => e)⟩
  have B2 : Aside0 (W0.heap[w.heap.size + 1]? = some (.cells #[.string ⟨#[]⟩, .int .i64 0, .int .i64 0, .slice none 0 0, .slice none 0 0] 47)) := ⟨by rw [← hW]; exact ((Chg.refl (fun _ => False) ((w.alloc _).alloc _)).alloc _).blk (heap_alloc2_new w _ _) (fun e => e)⟩
  have B3 : Aside0 (W0.heap[w.heap.size + 1 + 1]? = some (.cells #[.string f.name, .int .i64 f.pars, .int .i64 f.locs, .slice kA f.code.length kC, .slice hA f.hnd.length hC] 47)) := ⟨by rw [← hW]; exact heap_al3 w _ _ _⟩
  have hz0 : Aside0 (Chg (fun _ => False) w W0) := ⟨by rw [← hW]; exact cg⟩
  clear hW
  have p3 : W0.cell? ⟨w.heap.size, 3, none⟩ = some (.slice kA f.code.length kC) := blk_cell B1.out 3
  have hgt := blk_lt B3.out
  go_upto_region 3 with (go_at_call 46; go_must (refine (ref_CopyInstrsQ _ kA _ kC f.code (C_chg h1A.out (hz0.out.below (fun _ _ h => h))) hn1).mono ?_); go_must (rintro e w1 ⟨v, rfl, hr1, hc1⟩); go_must (obtain ⟨A1, n1, c1, rfl⟩ := R_sl hr1); go_must (have ow1 := Aside0.mk (Oq.of_new (v := (A1, n1, c1)) rfl hr1 hz0.out.size)); go_must (have B3w := hc1.blk B3.out (fun h => h)); go_must (have q3 := blk_cell B3w 3); go_must (have f3 := blk_frozen B3w 3); go_must (replace B3w := Aside0.mk B3w); go_must (replace hc1 := Aside0.mk hc1))
  (try simp only [Act.put, List.setIfInBounds_toArray, List.set_cons_zero, List.set_cons_succ])
  clear p3 q3 f3
  generalize hW : World.setCell w1 _ _ = W2
  have hs2 : Aside0 (Chg (fun k => k = w.heap.size + 1 + 1) w1 W2) := ⟨by rw [← hW]; exact (Chg.refl (fun k => k = w.heap.size + 1 + 1) w1).setCell (p := ⟨w.heap.size + 1 + 1, 3, none⟩) (fun _ => rfl) _⟩
  have B3x : Aside0 (W2.heap[w.heap.size + 1 + 1]? = some (.cells #[.string f.name, .int .i64 f.pars, .int .i64 f.locs, .slice A1 n1 c1, .slice hA f.hnd.length hC] 47)) := ⟨by rw [← hW]; exact blk_set B3w.out 3 _⟩
  have hz2 : Aside0 (Chg (fun _ => False) w W2) := ⟨(hz0.out.trans hc1.out (fun _ _ h => h)).trans hs2.out (fun k hk h => by omega)⟩
  replace B1 := Aside0.mk (hs2.out.blk (hc1.out.blk B1.out (fun h => h)) (by omega))
  replace B2 := Aside0.mk (hs2.out.blk (hc1.out.blk B2.out (fun h => h)) (by omega))
  replace ow1 := Aside0.mk (ow1.out.chg hs2.out (fun b hb e => by
    have h1 := Oq.ne_blk ow1.out B3w.out (by decide) hb
    exact h1 e))
  clear hW hs2 B3w B3 hc1 hz0
  have p4 : W2.cell? ⟨w.heap.size, 4, none⟩ = some (.slice hA f.hnd.length hC) := blk_cell B1.out 4
  go_wp2
  clear p4
  go_loopw [4, 5] (fun v i wr => ∃ k : Nat, i = .int .i64 k ∧ k ≤ f.hnd.length ∧ Aside0 (Kd.R kQH 54 wr 0 (New (fun _ => False) W2 wr) v (f.hnd.take k)) ∧ Aside0 (Chg (fun _ => False) W2 wr)) (fun _ i _ => f.hnd.length - (intOf i).toNat)
  case atStart => exact ⟨0, rfl, by omega, ⟨Kd.R_nil _ _ _ _ _⟩, ⟨Chg.refl _ _⟩⟩
  case round =>
    obtain ⟨k, rfl, hk, hR, hCh⟩ := hrel
    have B1w := Aside0.mk (hCh.out.blk B1.out (fun h => h))
    have p4 : wr.cell? ⟨w.heap.size, 4, none⟩ = some (.slice hA f.hnd.length hC) := blk_cell B1w.out 4
    by_cases hlt : k < f.hnd.length
    · obtain ⟨ad, frm1, upto1, tgt1, hgt1, e1, e2, x0, x1, x2, x3⟩ := kQH_at (C_chg h2A.out ((hz2.out.trans hCh.out (fun _ _ h => h)).below (fun _ _ h => h))) k hlt
      subst e1
      have hk0 : (0 : Int) ≤ k := by omega
      have hk1 : (k : Int) < f.hnd.length := by omega
      have ht : Aside0 (f.hnd.take (k + 1) = f.hnd.take k ++ [⟨frm1, upto1, tgt1, hgt1⟩]) := ⟨by rw [List.take_succ_eq_append_getElem hlt]; rw [List.getElem?_eq_getElem hlt] at e2; injection e2 with e2; rw [e2]⟩
      clear e2
      have hl : Aside0 (((f.hnd.take k).length + 1) * 32 ≤ 140737488355328) := ⟨by rw [List.length_take]; omega⟩
      go_wp2_with (at_builtin; go_must (refine app1 kQH rfl (.tmp 18) (.tmp 24) rfl Tryd.underlying45 infoQH rfl (by decide) (by decide) ⟨frm1, upto1, tgt1, hgt1⟩ rfl rfl (kQH_M _ _ _ _) hR hCh hl ?_); go_must (intro v1 w3 hr3 hc3))
      go_roundw
      case measure => first | (simp [intOf]; done) | (simp [intOf]; omega)
      case rel => exact ⟨k + 1, by go_num, by omega, ⟨by rw [ht.out]; exact hr3.out⟩, hc3⟩
    · obtain rfl : k = f.hnd.length := by omega
      have hk1 : ¬ ((f.hnd.length : Int) < f.hnd.length) := by omega
      obtain ⟨A4, n4, c4, rfl⟩ := R_sl hR.out
      have ow2 : Aside0 (Oq kQH 54 wr w.heap.size (A4, n4, c4) f.hnd) := ⟨by have h := hR.out; rw [List.take_length] at h; exact Oq.of_new (v := (A4, n4, c4)) rfl h hz2.out.size⟩
      have ow1w := Aside0.mk (ow1.out.chg hCh.out (fun _ _ h => h))
      have B3w := Aside0.mk (hCh.out.blk B3x.out (fun h => h))
      have B2y := Aside0.mk (hCh.out.blk B2.out (fun h => h))
      have q4 := blk_cell B3w.out 4
      have f4 := blk_frozen B3w.out 4
      go_upto_region 9 with (fail)
      (try simp only [Act.put, List.setIfInBounds_toArray, List.set_cons_zero, List.set_cons_succ])
      generalize hW : World.setCell wr _ _ = W4
      have hs4 : Aside0 (Chg (fun k => k = w.heap.size + 1 + 1) wr W4) := ⟨by rw [← hW]; exact (Chg.refl (fun k => k = w.heap.size + 1 + 1) wr).setCell (p := ⟨w.heap.size + 1 + 1, 4, none⟩) (fun _ => rfl) _⟩
      have B3y : Aside0 (W4.heap[w.heap.size + 1 + 1]? = some (.cells #[.string f.name, .int .i64 f.pars, .int .i64 f.locs, .slice A1 n1 c1, .slice A4 n4 c4] 47)) := ⟨by rw [← hW]; exact blk_set B3w.out 4 _⟩
      have B2w := Aside0.mk (hs4.out.blk B2y.out (by omega))
      have ow3 := Aside0.mk (ow1w.out.chg hs4.out (fun b hb e => Oq.ne_blk ow1w.out B3w.out (by decide) hb e))
      have ow4 := Aside0.mk (ow2.out.chg hs4.out (fun b hb e => Oq.ne_blk ow2.out B3w.out (by decide) hb e))
      have hz4 : Aside0 (Chg (fun _ => False) w W4) := ⟨(hz2.out.trans hCh.out (fun _ _ h => h)).trans hs4.out (fun k hk h => by omega)⟩
      clear hW q4 f4 p4
      have q0 : W4.cell? ⟨w.heap.size + 1 + 1, 0, none⟩ = some (.string f.name) := blk_cell B3y.out 0
      have q1 : W4.cell? ⟨w.heap.size + 1 + 1, 1, none⟩ = some (.int .i64 f.pars) := blk_cell B3y.out 1
      have q2 : W4.cell? ⟨w.heap.size + 1 + 1, 2, none⟩ = some (.int .i64 f.locs) := blk_cell B3y.out 2
      have q3 : W4.cell? ⟨w.heap.size + 1 + 1, 3, none⟩ = some (.slice A1 n1 c1) := blk_cell B3y.out 3
      have q4 : W4.cell? ⟨w.heap.size + 1 + 1, 4, none⟩ = some (.slice A4 n4 c4) := blk_cell B3y.out 4
      have t0 := blk_cell B2w.out 0
      have u0 := blk_frozen B2w.out 0
      have t1 := blk_cell B2w.out 1
      have u1 := blk_frozen B2w.out 1
      have t2 := blk_cell B2w.out 2
      have u2 := blk_frozen B2w.out 2
      have t3 := blk_cell B2w.out 3
      have u3 := blk_frozen B2w.out 3
      have t4 := blk_cell B2w.out 4
      have u4 := blk_frozen B2w.out 4
      go_wp2
      (try simp only [Exit.inBlock, Exit.then])
      refine bodyPost_ret (results_cell1 rfl _ _ _ _ rfl _ (run_loadVar_row _ _ _ _ _ _ _ (blk_set (blk_set (blk_set (blk_set (blk_set B2w.out 0 (.string f.name)) 1 (.int .i64 f.pars)) 2 (.int .i64 f.locs)) 3 (.slice A1 n1 c1)) 4 (.slice A4 n4 c4)) Tryd.underlying47 rfl (by kernel_rfl))) rfl ?_
      have hfin := (Chg.setCell (Chg.setCell (Chg.setCell (Chg.setCell (Chg.setCell (Chg.refl (fun k => k = w.heap.size + 1) W4) (p := ⟨w.heap.size + 1, 0, none⟩) (fun _ => rfl) (.string f.name)) (p := ⟨w.heap.size + 1, 1, none⟩) (fun _ => rfl) (.int .i64 f.pars)) (p := ⟨w.heap.size + 1, 2, none⟩) (fun _ => rfl) (.int .i64 f.locs)) (p := ⟨w.heap.size + 1, 3, none⟩) (fun _ => rfl) (.slice A1 n1 c1)) (p := ⟨w.heap.size + 1, 4, none⟩) (fun _ => rfl) (.slice A4 n4 c4))
      exact ⟨A1, n1, c1, A4, n4, c4, rfl, ow3.out.chg hfin (fun b hb e => Oq.ne_blk ow3.out B2w.out (by decide) hb e), ow4.out.chg hfin (fun b hb e => Oq.ne_blk ow4.out B2w.out (by decide) hb e), hz4.out.trans hfin (fun k hk h => by omega)⟩
end Go.Proofs.YtgaackedappmgaaDoor.K
