import Derived.Test.YtdoghjmanogelaaSh
import Derived.IntWalk
import Derived.BigQuiet
import Derived.Deep.RegionHeld3
namespace Go.Proofs.Ytdoghjmanogelaa.K
open Go.RowKit Go.Proofs.YtdoghjmanogelaaW.PrintWords Go.Proofs.YtdoghjmanogelaaW.PrintLast Go.Proofs.YtdoghjmanogelaaW.PrintMore
set_option linter.unusedVariables false
set_option linter.unusedSimpArgs false
set_option maxRecDepth 100000

/-- The full lists in rows of their own. -/
def ROwn (w : World) (lo : Nat) (ms : List SV) (ls : List (List QV)) : Prop := ms.length = ls.length ∧ ∀ (k : Nat) (m : SV) (l : List QV), ms[k]? = some m → ls[k]? = some l → Ow kQV 56 w lo m (l ++ kQVMarks 64)
theorem ROwn.hit {w w' : World} {lo : Nat} {ms : List SV} {ls : List (List QV)} {S : Nat → Prop} (h : ROwn w lo ms ls) (hc : Chg S w w') (hh : Hits w lo S [56]) : ROwn w' lo ms ls := ⟨h.1, fun k m l h1 h2 => (h.2 k m l h1 h2).hit hc hh (by decide)⟩
theorem ROwn.mono {w : World} {lo lo' : Nat} {ms : List SV} {ls : List (List QV)} (h : ROwn w lo ms ls) (hl : lo' ≤ lo) : ROwn w lo' ms ls := ⟨h.1, fun k m l h1 h2 => (h.2 k m l h1 h2).mono hl⟩
theorem ROwn.rooms {w : World} {lo : Nat} {ms : List SV} {ls : List (List QV)} (h : ROwn w lo ms ls) : Rooms w ms ls := fun k m l h1 h2 => (h.2 k m l h1 h2).toC
theorem ROwn.nil (w : World) (lo : Nat) : ROwn w lo [] [] := ⟨rfl, fun k m l h => by simp at h⟩
theorem ROwn.step {w : World} {lo k : Nat} {ms : List SV} {ls : List (List QV)} {m : SV} {l : List QV} (h : ROwn w lo ms (ls.take k)) (hl : ls[k]? = some l) (hm : Ow kQV 56 w lo m (l ++ kQVMarks 64)) : ROwn w lo (ms ++ [m]) (ls.take (k + 1)) :=
  pair_step (R := fun m l => Ow kQV 56 w lo m (l ++ kQVMarks 64)) h hl hm
theorem infoSV : (Try.prog.info? 52).map (fun i => (i.zero, i.size, i.bytes)) = some (some (.slice none 0 0), 1, 24) := by kernel_rfl
/-- A state that was lent. -/
def LentPost (w : World) (s : QS) (e : Ending) (w' : World) : Prop := ∃ (v1 v2 v3 rv : SV) (ros' : List RO) (Z : List (RB × List RF)) (ms : List SV), e = .returned (.tuple #[.agg #[svl v1, svl v2, svl v3, .int .i64 s.cur, .int .i64 s.steps, .int .i64 s.spent, .int .i64 s.read], svl rv]) ∧ SOwn w' w.heap.size v1 v2 v3 s ros' Z ∧ Ow kSV 52 w' w.heap.size rv ms ∧ ROwn w' w.heap.size ms (rowsS s) ∧ Chg (fun _ => False) w w'
theorem set_fst {α β : Type} {Z : List (α × β)} {i : Nat} {a : α} {l l' : β} (h : Z[i]? = some (a, l)) : (Z.set i (a, l')).map (·.1) = Z.map (·.1) := by
  have hi := (List.getElem?_eq_some_iff.1 h).1
  rw [List.map_set]
  apply List.ext_getElem?
  intro j
  by_cases hj : i = j
  · subst hj
    rw [List.getElem?_set_self (by rw [List.length_map]; exact hi), List.getElem?_map, h]
    rfl
  · rw [List.getElem?_set_ne hj]
set_option maxHeartbeats 4000000
theorem law_lent (w : World) (tA oA bA : Option Addr) (tc oc bc : Nat) (s : QS) (ros : List RO) (rbs : List RB) (L : List (List RF)) (h : SView w tA oA bA s ros rbs L) (hs : SSmall s) (hr : (rowsS s).length ≤ 1048576) :
    Calls Try.prog 14 #[.agg #[.slice tA s.texts.length tc, .slice oA s.objs.length oc, .slice bA s.fibers.length bc, .int .i64 s.cur, .int .i64 s.steps, .int .i64 s.spent, .int .i64 s.read]] w (LentPost w s) := by
  have hV := Aside0.mk h
  have hS := Aside0.mk hs
  have hrl := Aside0.mk hr
  have hb1 := hs.o
  have hb2 := hs.b
  clear h hs hr
  go_enter Try.func14, Try.ntmps14
  go_wp2_with (fail)
  generalize hW : World.alloc (World.alloc w _) _ = W0
  have B1 : Aside0 (W0.heap[w.heap.size]? = some (.cells #[.slice tA s.texts.length tc, .slice oA s.objs.length oc, .slice bA s.fibers.length bc, .int .i64 s.cur, .int .i64 s.steps, .int .i64 s.spent, .int .i64 s.read] 40)) := ⟨by rw [← hW]; exact ((Chg.refl (fun _ => False) (w.alloc _)).alloc _).blk (heap_alloc_new w _) (fun e => e)⟩
  have B2 : Aside0 (W0.heap[w.heap.size + 1]? = some (.cells #[.slice none 0 0, .slice none 0 0, .slice none 0 0, .int .i64 0, .int .i64 0, .int .i64 0, .int .i64 0] 40)) := ⟨by rw [← hW]; exact heap_alloc2_new w _ _⟩
  have hz0 : Aside0 (Chg (fun _ => False) w W0) := ⟨by rw [← hW]; exact cg⟩
  clear hW
  go_wp2_with (first | (go_at_call 24; go_must (refine (ref_CopyState _ tA oA bA tc oc bc s ros rbs L (hV.out.below bl) hS.out).mono ?_); go_must (rintro e w1 ⟨⟨A1, n1, c1⟩, ⟨A2, n2, c2⟩, ⟨A3, n3, c3⟩, ro1, Z1, rfl, hO, hc1⟩); go_must (simp only [svl]); go_must (replace hO := Aside0.mk hO); go_must (replace hc1 := Aside0.mk hc1)))
  obtain rfl : n2 = s.objs.length := (hO.out.o.len).1.trans hO.out.oc.1
  obtain rfl : n3 = s.fibers.length := (hO.out.b.len).1.trans (by rw [List.length_map]; exact hO.out.bc.1)
  generalize hW1 : World.alloc w1 _ = W1
  have B3 : W1.heap[w1.heap.size]? = some (.cells #[.slice A1 n1 c1, .slice A2 s.objs.length c2, .slice A3 s.fibers.length c3, .int .i64 s.cur, .int .i64 s.steps, .int .i64 s.spent, .int .i64 s.read] 40) := by rw [← hW1]; exact heap_alloc_new w1 _
  obtain ⟨b3, hb3⟩ : ∃ b3, b3 = w1.heap.size := ⟨_, rfl⟩
  rw [← hb3] at B3 ⊢
  replace B3 := Aside0.mk B3
  have hO1 : Aside0 (SOwn W1 W0.heap.size (A1, n1, c1) (A2, s.objs.length, c2) (A3, s.fibers.length, c3) s ro1 Z1) := ⟨by rw [← hW1]; exact hO.out.hit ((Chg.refl (fun _ => False) w1).alloc _) Hits.no⟩
  have hcW : Aside0 (Chg (fun _ => False) W0 W1) := ⟨by rw [← hW1]; exact cg⟩
  clear hW1 hO hc1 hb3
  go_loopw [5, 6] (fun v i wr => ∃ (k : Nat) (rA : Option Addr) (rN rC : Nat) (ros : List RO) (ms : List SV), v = .slice rA rN rC ∧ i = .int .i64 k ∧ k ≤ s.objs.length ∧ Aside0 (SOwn wr W0.heap.size (A1, n1, c1) (A2, s.objs.length, c2) (A3, s.fibers.length, c3) s ros Z1) ∧ Aside0 (Ow kSV 52 wr W0.heap.size (rA, rN, rC) ms) ∧ Aside0 (ROwn wr W0.heap.size ms ((rowsS s).take k)) ∧ Aside0 (Chg (fun _ => False) W0 wr) ∧ Aside0 (wr.heap[b3]? = some (.cells #[.slice A1 n1 c1, .slice A2 s.objs.length c2, .slice A3 s.fibers.length c3, .int .i64 s.cur, .int .i64 s.steps, .int .i64 s.spent, .int .i64 s.read] 40))) (fun _ i _ => s.objs.length - (intOf i).toNat)
  case atStart => exact ⟨0, none, 0, 0, ro1, [], rfl, rfl, by omega, hO1, ⟨Ow.nil _ _ _ _⟩, ⟨ROwn.nil _ _⟩, hcW, B3⟩
  case round =>
    clear hO1 hcW B3
    obtain ⟨k, rA, rN, rC, ros, ms, rfl, rfl, hk, hO, hR, hM, hCh, hB3⟩ := hrel
    have y1 : wr.cell? ⟨b3, 1, none⟩ = some (.slice A2 s.objs.length c2) := blk_cell hB3.out 1
    by_cases hlt : k < s.objs.length
    · obtain ⟨x, hx⟩ : ∃ x, s.objs[k]? = some x := ⟨_, List.getElem?_eq_getElem hlt⟩
      have p1_1 : wr.cell? ⟨w.heap.size, 1, none⟩ = some (.slice oA s.objs.length oc) := blk_cell (cs := #[.slice tA s.texts.length tc, .slice oA s.objs.length oc, .slice bA s.fibers.length bc, .int .i64 s.cur, .int .i64 s.steps, .int .i64 s.spent, .int .i64 s.read]) (t := 40) bk 1
      have hv := hV.out.below (w' := wr) bl
      obtain ⟨od, q, e1, e2, _, x1, _, _, _, _⟩ := atRO hv.os k hlt
      subst e1
      have hqc := (hv.ro k q x e2 hx).2.2.2.2.1
      have hql : q.items.2.1 = x.items.length := hqc.1.symm
      rw [hql] at x1 hqc
      replace hqc := Aside0.mk hqc
      have hbi := Aside0.mk (hS.out.oi x (List.mem_of_getElem? hx)).1
      obtain ⟨g, e3⟩ := hO.out.o.some (by rw [hO.out.oc.1]; omega)
      subst e3
      obtain ⟨r, hr⟩ : ∃ r, ros[k]? = some r := ⟨_, List.getElem?_eq_getElem (by rw [hO.out.oc.1]; exact hlt)⟩
      have hrA := Aside0.mk hr
      have hxA := Aside0.mk hx
      have hk0 : (0 : Int) ≤ k := by omega
      have hk1 : (k : Int) < s.objs.length := by omega
      have hrl2 := hM.out.1
      have hl : Aside0 ((ms.length + 1) * 24 ≤ 140737488355328) := ⟨by rw [List.length_take] at hrl2; have := hrl.out; omega⟩
      have hlen0 : (0 : Int) ≤ x.items.length := by omega
      clear e2 hx hv hr hrl2 hql
      go_wp2_with (first | (go_at_call 47; go_must (refine (kit_LentValues _ q.items.1 x.items.length q.items.2.2 x.items (Kd.C_below hqc.out bl) hbi.out).mono ?_); go_must (rintro e w2 ⟨v2, rfl, hm2, hc2⟩); go_must (obtain ⟨mA, mN, mC, rfl⟩ := R_sl hm2); go_must (have hm2 := Aside0.mk (Ow.of_new (v := (mA, mN, mC)) (lo := W0.heap.size) rfl hm2 hCh.out.size)); go_must (replace hc2 := Aside0.mk hc2); go_must (have hR2 := hR.out.hit hc2.out (Hits.no (ts := [52])) (by decide)); go_must (have hRd := own_new0 hR2.1); go_must (replace hR2 := Aside0.mk hR2); go_must (have hCd : Aside0 (Chg (fun b => (svl (rA, rN, rC)).ownBlock = some b) w2 w2) := ⟨Chg.refl _ _⟩)) | (at_builtin; go_must (refine app1 kSV rfl (.tmp 30) (.tmp 32) rfl Try.underlying41 infoSV rfl (by decide) (by decide) (mA, mN, mC) rfl rfl rfl hRd hCd hl ?_); go_must (intro v1 w3 hr3 hc3); go_must (obtain ⟨A4, n4, c4, rfl⟩ := R_sl hr3.out); go_must (have hh := fun (ts : List TypeId) ht => Hits.own (lo := W0.heap.size) (ts := ts) hR2.out ht); go_must (have hB2 := hc2.out.blk hB3.out (fun h => h)); go_must (have hB33 := Aside0.mk (hc3.out.blk hB2 (fun e => (by obtain ⟨cu, ec⟩ := Kd.R_typed hR2.out.1 b3 e; rw [hB2] at ec; injection ec with ec; injection ec with _ ec; exact absurd ec (by decide))))); go_must (have hO3 := Aside0.mk ((hO.out.hit hc2.out Hits.no).hit hc3.out (hh _ (by decide)))); go_must (have hm3 := Aside0.mk (hm2.out.hit hc3.out (hh [56] (by decide)) (by decide))); go_must (have hR3 := Aside0.mk (Ow.app (v1 := (A4, n4, c4)) rfl hR2.out hr3.out (Nat.le_trans hCh.out.size hc2.out.size))); go_must (have hM3 := Aside0.mk ((hM.out.hit hc2.out Hits.no).hit hc3.out (hh _ (by decide)))); go_must (have hCh3 := Aside0.mk (((hCh.out.trans hc2.out (fun _ _ h => h)).trans hc3.out (fun b hb e => by have := hR2.out.2 b e; omega)))); go_must (have y1 := blk_cell hB33.out 1); go_must (obtain ⟨_, y2, _, _, _, _⟩ := ownRO hO3.out.o.toC k hlt hrA.out); go_must (obtain ⟨cu, hcu⟩ := Kd.R_typed hO3.out.o.1 g rfl); go_must (have fz := blk_frozen hcu (k * 6 + 1)); go_must (have hgb : Aside0 (b3 ≠ g) := ⟨fun e => by subst e; rw [hB33.out] at hcu; injection hcu with hcu; injection hcu with _ hcu; exact absurd hcu (by decide)⟩); go_must (have hlen1 : (x.items.length : Int) ≤ mC := by have h1 := (hm2.out.len).1; have h2 := (hm2.out.len).2; rw [List.length_append] at h1; omega); go_must (clear hh hB2 hcu hRd hCd)))
      refine start_ (n := 10) (S := fun w' => w'.cell? ⟨b3, 1, none⟩ = some (.slice (some ⟨g, 0, none⟩) s.objs.length c2)) (ds := [9]) #[false, false, false, false, false, false, false, false, false, false] (by kernel_rfl) rfl rfl (y1) (fun hHeld => ?_)
      refine pure_ (i := 0) (N := some 34) (v := ?_) (a' := ?_) #[true, false, false, false, false, false, false, false, false, false] rfl rfl (by kernel_rfl) (fun _ _ _ h => h) (Or.inl ⟨by rfl, ?_⟩) ?_ ?_
      rotate_left
      · intro w'
        go_simp
        with_reducible rfl
      rotate_left
      · simp only [Act.put, List.setIfInBounds_toArray, List.set_cons_zero, List.set_cons_succ, i64_w, i32_w]
        rfl
      refine pure_ (i := 2) (N := some 36) (v := ?_) (a' := ?_) #[true, false, true, false, false, false, false, false, false, false] rfl rfl (by kernel_rfl) (fun _ _ _ h => h) (Or.inl ⟨by rfl, ?_⟩) ?_ ?_
      rotate_left
      · intro w'
        go_simp
        with_reducible rfl
      rotate_left
      · simp only [Act.put, List.setIfInBounds_toArray, List.set_cons_zero, List.set_cons_succ, i64_w, i32_w]
        rfl
      refine pure_ (i := 3) (N := some 37) (v := ?_) (a' := ?_) #[true, false, true, true, false, false, false, false, false, false] rfl rfl (by kernel_rfl) (fun _ _ _ h => h) (Or.inl ⟨by rfl, ?_⟩) ?_ ?_
      rotate_left
      · intro w'
        go_simp
        with_reducible rfl
      rotate_left
      · simp only [Act.put, List.setIfInBounds_toArray, List.set_cons_zero, List.set_cons_succ, i64_w, i32_w]
        rfl
      refine pure_ (i := 4) (N := some 38) (v := ?_) (a' := ?_) #[true, false, true, true, true, false, false, false, false, false] rfl rfl (by kernel_rfl) (fun _ _ _ h => h) (Or.inl ⟨by rfl, ?_⟩) ?_ ?_
      rotate_left
      · intro w'
        go_simp
        with_reducible rfl
      rotate_left
      · simp only [Act.put, List.setIfInBounds_toArray, List.set_cons_zero, List.set_cons_succ, i64_w, i32_w]
        rfl
      refine pure_ (i := 5) (N := some 39) (v := ?_) (a' := ?_) #[true, false, true, true, true, true, false, false, false, false] rfl rfl (by kernel_rfl) (fun _ _ _ h => h) (Or.inl ⟨by rfl, ?_⟩) ?_ ?_
      rotate_left
      · intro w'
        go_simp
        with_reducible rfl
      rotate_left
      · simp only [Act.put, List.setIfInBounds_toArray, List.set_cons_zero, List.set_cons_succ, i64_w, i32_w]
        rfl
      refine pure_ (i := 6) (N := some 40) (v := ?_) (a' := ?_) #[true, false, true, true, true, true, true, false, false, false] rfl rfl (by kernel_rfl) (fun _ _ _ h => h) (Or.inl ⟨by rfl, ?_⟩) ?_ ?_
      rotate_left
      · intro w'
        go_simp
        with_reducible rfl
      rotate_left
      · simp only [Act.put, List.setIfInBounds_toArray, List.set_cons_zero, List.set_cons_succ, i64_w, i32_w]
        rfl
      refine take_ (i := 1) (N := some 35) (v := ?_) (a' := ?_) #[true, true, true, true, true, true, true, false, false, false] rfl rfl (by kernel_rfl) (fun _ _ _ h => h) (Or.inl ⟨by rfl, ?_⟩) hHeld ?_ ?_
      rotate_left
      · intro w' s0
        go_simp
        with_reducible rfl
      rotate_left
      · simp only [Act.put, List.setIfInBounds_toArray, List.set_cons_zero, List.set_cons_succ, i64_w, i32_w]
        rfl
      refine pure_ (i := 7) (N := some 41) (v := ?_) (a' := ?_) #[true, true, true, true, true, true, true, true, false, false] rfl rfl (by kernel_rfl) (fun _ _ _ h => h) (Or.inl ⟨by rfl, ?_⟩) ?_ ?_
      rotate_left
      · intro w'
        go_simp
        with_reducible rfl
      rotate_left
      · simp only [Act.put, List.setIfInBounds_toArray, List.set_cons_zero, List.set_cons_succ, i64_w, i32_w]
        rfl
      refine pure_ (i := 8) (N := some 42) (v := ?_) (a' := ?_) #[true, true, true, true, true, true, true, true, true, false] rfl rfl (by kernel_rfl) (fun _ _ _ h => h) (Or.inl ⟨by rfl, ?_⟩) ?_ ?_
      rotate_left
      · intro w'
        go_simp
        with_reducible rfl
      rotate_left
      · simp only [Act.put, List.setIfInBounds_toArray, List.set_cons_zero, List.set_cons_succ, i64_w, i32_w]
        rfl
      refine last_ (i := 9) (N := none) #[true, true, true, true, true, true, true, true, true, true] rfl rfl (by kernel_rfl) (by decide) (fun K hK => ?_)
      refine skip_ (w1 := ?_) (by rfl) rfl ?_ ?_
      rotate_left
      · go_simp
        rfl
      refine hK.out _ _ ?_
      clear hK K
      refine done_ (by kernel_rfl) ?_

      go_wp2
      go_roundw
      case measure => first | (simp [intOf]; done) | (simp [intOf]; omega)
      case rel =>
        have hput := (hO3.out.hit ((Chg.refl (fun _ => False) w3).drew) Hits.no).putO hrA.out hxA.out (((hm3.out.cut).chg ((Chg.refl (fun _ => False) w3).drew) (fun _ _ h => h)))
        have hs : Chg (fun b => (svl (some ⟨g, 0, none⟩, s.objs.length, c2)).ownBlock = some b) w3 (w3.drew.setCell ⟨g, k * 6 + 1, none⟩ (.slice mA x.items.length mC)) := ((Chg.refl (fun b => (svl (some ⟨g, 0, none⟩, s.objs.length, c2)).ownBlock = some b) w3).drew).setCell (p := ⟨g, k * 6 + 1, none⟩) (fun _ => rfl) _
        have hsv := Hits.own (lo := W0.heap.size) (ts := [52]) hO3.out.o (by decide)
        have hsq := Hits.own (lo := W0.heap.size) (ts := [56]) hO3.out.o (by decide)
        refine ⟨k + 1, A4, n4, c4, _, _, rfl, by go_num, by omega, ⟨hput⟩, ⟨hR3.out.hit hs hsv (by decide)⟩, ⟨(hM3.out.step (by rw [rowsS_objs hxA.out]) hm3.out).hit hs hsq⟩, ⟨hCh3.out.trans hs (fun b hb hS => by have := hO3.out.o.2 b hS; omega)⟩, ⟨hs.blk hB33.out (fun e => hgb.out (Option.some.inj (show some g = some b3 from e)).symm)⟩⟩
    · obtain rfl : k = s.objs.length := by omega
      clear hk hlt
      go_wp2
      clear y1
      go_loopw [5, 9, 10] (fun v i _ wr => ∃ (j : Nat) (rA : Option Addr) (rN rC : Nat) (Z : List (RB × List RF)) (ms : List SV), v = .slice rA rN rC ∧ i = .int .i64 j ∧ j ≤ s.fibers.length ∧ Aside0 (SOwn wr W0.heap.size (A1, n1, c1) (A2, s.objs.length, c2) (A3, s.fibers.length, c3) s ros Z) ∧ Aside0 (Z.map (·.1) = Z1.map (·.1)) ∧ Aside0 (Ow kSV 52 wr W0.heap.size (rA, rN, rC) ms) ∧ Aside0 (ROwn wr W0.heap.size ms ((rowsS s).take (s.objs.length + offB s.fibers j))) ∧ Aside0 (Chg (fun _ => False) W0 wr) ∧ Aside0 (wr.heap[b3]? = some (.cells #[.slice A1 n1 c1, .slice A2 s.objs.length c2, .slice A3 s.fibers.length c3, .int .i64 s.cur, .int .i64 s.steps, .int .i64 s.spent, .int .i64 s.read] 40))) (fun _ i _ _ => s.fibers.length - (intOf i).toNat)
      case atStart => exact ⟨0, rA, rN, rC, Z1, ms, rfl, rfl, by omega, hO, ⟨rfl⟩, hR, ⟨by simpa [offB, rowsB] using hM.out⟩, hCh, hB3⟩
      case round =>
        clear hO hR hM hCh hB3
        obtain ⟨j, rA, rN, rC, Z, ms, rfl, rfl, hj, hO, hZ, hR, hM, hCh, hB3⟩ := hrel
        have y1 : wr.cell? ⟨b3, 2, none⟩ = some (.slice A3 s.fibers.length c3) := blk_cell hB3.out 2
        by_cases hlj : j < s.fibers.length
        · obtain ⟨x, hx⟩ : ∃ x, s.fibers[j]? = some x := ⟨_, List.getElem?_eq_getElem hlj⟩
          have hxA := Aside0.mk hx
          have hfm := (hS.out.bf x (List.mem_of_getElem? hx)).1
          have hfb := Aside0.mk (hS.out.bf x (List.mem_of_getElem? hx)).2
          have hof := Aside0.mk (offB_succ hx)
          obtain ⟨g3, e3⟩ := hO.out.b.some (by rw [List.length_map, hO.out.bc.1]; omega)
          subst e3
          obtain ⟨⟨⟨fA, fN, fC⟩⟩, zf⟩ : ∃ z : RB, (Z.map (·.1))[j]? = some z := ⟨_, List.getElem?_eq_getElem (by rw [List.length_map, hO.out.bc.1]; exact hlj)⟩
          have zfA := Aside0.mk (hZ.out ▸ zf)
          have hfN : fN = x.frames.length := by
            obtain ⟨z, hz, e⟩ := pair_at zf
            have h1 := (hO.out.bc.2 j z x hz hx)
            rw [← e] at h1
            exact (h1.1.len).1.trans h1.2.1
          subst hfN
          have hj0 : (0 : Int) ≤ j := by omega
          have hj1 : (j : Int) < s.fibers.length := by omega
          clear hx zf
          go_wp2
          clear y1
          go_loopw [5, 10] (fun v i wr => ∃ (k : Nat) (rA : Option Addr) (rN rC : Nat) (Z : List (RB × List RF)) (ms : List SV), v = .slice rA rN rC ∧ i = .int .i64 k ∧ k ≤ x.frames.length ∧ Aside0 (SOwn wr W0.heap.size (A1, n1, c1) (A2, s.objs.length, c2) (some ⟨g3, 0, none⟩, s.fibers.length, c3) s ros Z) ∧ Aside0 (Z.map (·.1) = Z1.map (·.1)) ∧ Aside0 (Ow kSV 52 wr W0.heap.size (rA, rN, rC) ms) ∧ Aside0 (ROwn wr W0.heap.size ms ((rowsS s).take (s.objs.length + offB s.fibers j + k))) ∧ Aside0 (Chg (fun _ => False) W0 wr) ∧ Aside0 (wr.heap[b3]? = some (.cells #[.slice A1 n1 c1, .slice A2 s.objs.length c2, .slice (some ⟨g3, 0, none⟩) s.fibers.length c3, .int .i64 s.cur, .int .i64 s.steps, .int .i64 s.spent, .int .i64 s.read] 40))) (fun _ i _ => x.frames.length - (intOf i).toNat)
          case atStart => exact ⟨0, rA, rN, rC, Z, ms, rfl, rfl, by omega, hO, hZ, hR, hM, hCh, hB3⟩
          case round =>
            clear hO hR hM hCh hB3 hZ
            obtain ⟨k, rA, rN, rC, Z, ms, rfl, rfl, hk, hO, hZ, hR, hM, hCh, hB3⟩ := hrel
            have y1 : wr.cell? ⟨b3, 2, none⟩ = some (.slice (some ⟨g3, 0, none⟩) s.fibers.length c3) := blk_cell hB3.out 2
            have zf : (Z.map (·.1))[j]? = some ⟨(fA, x.frames.length, fC)⟩ := by rw [hZ.out]; exact zfA.out
            have y2 := ownRB hO.out.b.toC j hlj zf
            simp only at y2
            by_cases hlt : k < x.frames.length
            · obtain ⟨f, hf⟩ : ∃ f, x.frames[k]? = some f := ⟨_, List.getElem?_eq_getElem hlt⟩
              have hfA := Aside0.mk hf
              obtain ⟨⟨z1, zl⟩, hz, e⟩ := pair_at zf
              (try simp only at e)
              subst e
              have hzA := Aside0.mk hz
              have hbc := hO.out.bc.2 j _ x hz hxA.out
              obtain ⟨gf, e4⟩ := hbc.1.some (by rw [hbc.2.1]; omega)
              subst e4
              obtain ⟨r, hr⟩ : ∃ r, zl[k]? = some r := ⟨_, List.getElem?_eq_getElem (by rw [hbc.2.1]; exact hlt)⟩
              have hrA := Aside0.mk hr
              have p1_2 : wr.cell? ⟨w.heap.size, 2, none⟩ = some (.slice bA s.fibers.length bc) := blk_cell (cs := #[.slice tA s.texts.length tc, .slice oA s.objs.length oc, .slice bA s.fibers.length bc, .int .i64 s.cur, .int .i64 s.steps, .int .i64 s.spent, .int .i64 s.read]) (t := 40) bk 2
              have hv := (hV.out.below (w' := wr) bl).zip
              obtain ⟨bd, q, e1, e2, z0⟩ := atRB hv.2.2 j hlj
              subst e1
              obtain ⟨⟨q1, ql⟩, hq, e⟩ := pair_at e2
              (try simp only at e)
              subst e
              have hqx := hv.2.1 j (q, ql) x hq hxA.out
              obtain ⟨⟨sA, sN, sC⟩⟩ := q
              have hqn : sN = x.frames.length := hqx.1.1.symm.trans hqx.2.1
              subst hqn
              obtain ⟨fd, u, e1, e2, _, _, x2⟩ := atRF hqx.1 k hlt
              (try simp only at e1 z0)
              subst e1
              have huc := (hqx.2.2 k u f e2 hf).2.2
              have hul : u.slots.2.1 = f.slots.length := huc.1.symm
              rw [hul] at x2 huc
              replace huc := Aside0.mk huc
              have hbi := Aside0.mk (hfb.out f (List.mem_of_getElem? hf))
              have hrx := rowsS_frames hxA.out hf
              obtain ⟨n, hn⟩ : ∃ n, n = s.objs.length + offB s.fibers j + k := ⟨_, rfl⟩
              rw [← hn] at hrx hM
              have hrxA := Aside0.mk hrx
              have hnA := Aside0.mk hn
              have hn2 := (List.getElem?_eq_some_iff.1 hrx).1
              have hk0 : (0 : Int) ≤ k := by omega
              have hk1 : (k : Int) < x.frames.length := by omega
              have hrl2 := hM.out.1
              have hl : Aside0 ((ms.length + 1) * 24 ≤ 140737488355328) := ⟨by rw [List.length_take] at hrl2; have := hrl.out; omega⟩
              have hlen0 : (0 : Int) ≤ f.slots.length := by omega
              clear hn hf hz hbc hr hv e2 hq hqx hul hrl2 hrx hn2 zf
              go_wp2_with (first | (go_at_call 47; go_must (refine (kit_LentValues _ u.slots.1 f.slots.length u.slots.2.2 f.slots (Kd.C_below huc.out bl) hbi.out).mono ?_); go_must (rintro e w2 ⟨v2, rfl, hm2, hc2⟩); go_must (obtain ⟨mA, mN, mC, rfl⟩ := R_sl hm2); go_must (have hm2 := Aside0.mk (Ow.of_new (v := (mA, mN, mC)) (lo := W0.heap.size) rfl hm2 hCh.out.size)); go_must (replace hc2 := Aside0.mk hc2); go_must (have hR2 := hR.out.hit hc2.out (Hits.no (ts := [52])) (by decide)); go_must (have hRd := own_new0 hR2.1); go_must (replace hR2 := Aside0.mk hR2); go_must (have hCd : Aside0 (Chg (fun b => (svl (rA, rN, rC)).ownBlock = some b) w2 w2) := ⟨Chg.refl _ _⟩)) | (at_builtin; go_must (refine app1 kSV rfl (.tmp 73) (.tmp 75) rfl Try.underlying41 infoSV rfl (by decide) (by decide) (mA, mN, mC) rfl rfl rfl hRd hCd hl ?_); go_must (intro v1 w3 hr3 hc3); go_must (obtain ⟨A4, n4, c4, rfl⟩ := R_sl hr3.out); go_must (have hh := fun (ts : List TypeId) ht => Hits.own (lo := W0.heap.size) (ts := ts) hR2.out ht); go_must (have hB2 := hc2.out.blk hB3.out (fun h => h)); go_must (have hB33 := Aside0.mk (hc3.out.blk hB2 (fun e => (by obtain ⟨cu, ec⟩ := Kd.R_typed hR2.out.1 b3 e; rw [hB2] at ec; injection ec with ec; injection ec with _ ec; exact absurd ec (by decide))))); go_must (have hO3 := Aside0.mk ((hO.out.hit hc2.out Hits.no).hit hc3.out (hh _ (by decide)))); go_must (have hm3 := Aside0.mk (hm2.out.hit hc3.out (hh [56] (by decide)) (by decide))); go_must (have hR3 := Aside0.mk (Ow.app (v1 := (A4, n4, c4)) rfl hR2.out hr3.out (Nat.le_trans hCh.out.size hc2.out.size))); go_must (have hM3 := Aside0.mk ((hM.out.hit hc2.out Hits.no).hit hc3.out (hh _ (by decide)))); go_must (have hCh3 := Aside0.mk (((hCh.out.trans hc2.out (fun _ _ h => h)).trans hc3.out (fun b hb e => by have := hR2.out.2 b e; omega)))); go_must (have y1 := blk_cell hB33.out 2); go_must (have y2 := ownRB hO3.out.b.toC j hlj (by rw [hZ.out]; exact zfA.out)); go_must (simp only at y2); go_must (have hbc3 := Aside0.mk (hO3.out.bc.2 j _ x hzA.out hxA.out).1); go_must (obtain ⟨_, _, y3⟩ := ownRF hbc3.out.toC k hlt hrA.out); go_must (obtain ⟨cu, hcu⟩ := Kd.R_typed hbc3.out.1 gf rfl); go_must (have fz := blk_frozen hcu (k * 3 + 2)); go_must (have hgb : Aside0 (b3 ≠ gf) := ⟨fun e => by subst e; rw [hB33.out] at hcu; injection hcu with hcu; injection hcu with _ hcu; exact absurd hcu (by decide)⟩); go_must (have hlen1 : (f.slots.length : Int) ≤ mC := by have h1 := (hm2.out.len).1; have h2 := (hm2.out.len).2; rw [List.length_append] at h1; omega); go_must (clear hh hB2 hcu hRd hCd)))
              refine start_ (n := 14) (S := fun w' => w'.cell? ⟨b3, 2, none⟩ = some (.slice (some ⟨g3, 0, none⟩) s.fibers.length c3) ∧ w'.cell? ⟨g3, j, none⟩ = some (.slice (some ⟨gf, 0, none⟩) x.frames.length fC)) (ds := [13]) #[false, false, false, false, false, false, false, false, false, false, false, false, false, false] (by kernel_rfl) rfl rfl ⟨y1, y2⟩ (fun hHeld => ?_)
              refine pure_ (i := 0) (N := some 77) (v := ?_) (a' := ?_) #[true, false, false, false, false, false, false, false, false, false, false, false, false, false] rfl rfl (by kernel_rfl) (fun _ _ _ h => h) (Or.inl ⟨by rfl, ?_⟩) ?_ ?_
              rotate_left
              · intro w'
                go_simp
                with_reducible rfl
              rotate_left
              · simp only [Act.put, List.setIfInBounds_toArray, List.set_cons_zero, List.set_cons_succ, i64_w, i32_w]
                rfl
              refine pure_ (i := 2) (N := some 79) (v := ?_) (a' := ?_) #[true, false, true, false, false, false, false, false, false, false, false, false, false, false] rfl rfl (by kernel_rfl) (fun _ _ _ h => h) (Or.inl ⟨by rfl, ?_⟩) ?_ ?_
              rotate_left
              · intro w'
                go_simp
                with_reducible rfl
              rotate_left
              · simp only [Act.put, List.setIfInBounds_toArray, List.set_cons_zero, List.set_cons_succ, i64_w, i32_w]
                rfl
              refine pure_ (i := 6) (N := some 83) (v := ?_) (a' := ?_) #[true, false, true, false, false, false, true, false, false, false, false, false, false, false] rfl rfl (by kernel_rfl) (fun _ _ _ h => h) (Or.inl ⟨by rfl, ?_⟩) ?_ ?_
              rotate_left
              · intro w'
                go_simp
                with_reducible rfl
              rotate_left
              · simp only [Act.put, List.setIfInBounds_toArray, List.set_cons_zero, List.set_cons_succ, i64_w, i32_w]
                rfl
              refine pure_ (i := 7) (N := some 84) (v := ?_) (a' := ?_) #[true, false, true, false, false, false, true, true, false, false, false, false, false, false] rfl rfl (by kernel_rfl) (fun _ _ _ h => h) (Or.inl ⟨by rfl, ?_⟩) ?_ ?_
              rotate_left
              · intro w'
                go_simp
                with_reducible rfl
              rotate_left
              · simp only [Act.put, List.setIfInBounds_toArray, List.set_cons_zero, List.set_cons_succ, i64_w, i32_w]
                rfl
              refine pure_ (i := 8) (N := some 85) (v := ?_) (a' := ?_) #[true, false, true, false, false, false, true, true, true, false, false, false, false, false] rfl rfl (by kernel_rfl) (fun _ _ _ h => h) (Or.inl ⟨by rfl, ?_⟩) ?_ ?_
              rotate_left
              · intro w'
                go_simp
                with_reducible rfl
              rotate_left
              · simp only [Act.put, List.setIfInBounds_toArray, List.set_cons_zero, List.set_cons_succ, i64_w, i32_w]
                rfl
              refine pure_ (i := 9) (N := some 86) (v := ?_) (a' := ?_) #[true, false, true, false, false, false, true, true, true, true, false, false, false, false] rfl rfl (by kernel_rfl) (fun _ _ _ h => h) (Or.inl ⟨by rfl, ?_⟩) ?_ ?_
              rotate_left
              · intro w'
                go_simp
                with_reducible rfl
              rotate_left
              · simp only [Act.put, List.setIfInBounds_toArray, List.set_cons_zero, List.set_cons_succ, i64_w, i32_w]
                rfl
              refine pure_ (i := 10) (N := some 87) (v := ?_) (a' := ?_) #[true, false, true, false, false, false, true, true, true, true, true, false, false, false] rfl rfl (by kernel_rfl) (fun _ _ _ h => h) (Or.inl ⟨by rfl, ?_⟩) ?_ ?_
              rotate_left
              · intro w'
                go_simp
                with_reducible rfl
              rotate_left
              · simp only [Act.put, List.setIfInBounds_toArray, List.set_cons_zero, List.set_cons_succ, i64_w, i32_w]
                rfl
              refine take_ (i := 1) (N := some 78) (v := ?_) (a' := ?_) #[true, true, true, false, false, false, true, true, true, true, true, false, false, false] rfl rfl (by kernel_rfl) (fun _ _ _ h => h) (Or.inl ⟨by rfl, ?_⟩) hHeld ?_ ?_
              rotate_left
              · rintro w' ⟨s0, s1⟩
                go_simp
                with_reducible rfl
              rotate_left
              · simp only [Act.put, List.setIfInBounds_toArray, List.set_cons_zero, List.set_cons_succ, i64_w, i32_w]
                rfl
              refine pure_ (i := 3) (N := some 80) (v := ?_) (a' := ?_) #[true, true, true, true, false, false, true, true, true, true, true, false, false, false] rfl rfl (by kernel_rfl) (fun _ _ _ h => h) (Or.inl ⟨by rfl, ?_⟩) ?_ ?_
              rotate_left
              · intro w'
                go_simp
                with_reducible rfl
              rotate_left
              · simp only [Act.put, List.setIfInBounds_toArray, List.set_cons_zero, List.set_cons_succ, i64_w, i32_w]
                rfl
              refine pure_ (i := 4) (N := some 81) (v := ?_) (a' := ?_) #[true, true, true, true, true, false, true, true, true, true, true, false, false, false] rfl rfl (by kernel_rfl) (fun _ _ _ h => h) (Or.inl ⟨by rfl, ?_⟩) ?_ ?_
              rotate_left
              · intro w'
                go_simp
                with_reducible rfl
              rotate_left
              · simp only [Act.put, List.setIfInBounds_toArray, List.set_cons_zero, List.set_cons_succ, i64_w, i32_w]
                rfl
              refine take_ (i := 5) (N := some 82) (v := ?_) (a' := ?_) #[true, true, true, true, true, true, true, true, true, true, true, false, false, false] rfl rfl (by kernel_rfl) (fun _ _ _ h => h) (Or.inl ⟨by rfl, ?_⟩) hHeld ?_ ?_
              rotate_left
              · rintro w' ⟨s0, s1⟩
                go_simp
                with_reducible rfl
              rotate_left
              · simp only [Act.put, List.setIfInBounds_toArray, List.set_cons_zero, List.set_cons_succ, i64_w, i32_w]
                rfl
              refine pure_ (i := 11) (N := some 88) (v := ?_) (a' := ?_) #[true, true, true, true, true, true, true, true, true, true, true, true, false, false] rfl rfl (by kernel_rfl) (fun _ _ _ h => h) (Or.inl ⟨by rfl, ?_⟩) ?_ ?_
              rotate_left
              · intro w'
                go_simp
                with_reducible rfl
              rotate_left
              · simp only [Act.put, List.setIfInBounds_toArray, List.set_cons_zero, List.set_cons_succ, i64_w, i32_w]
                rfl
              refine pure_ (i := 12) (N := some 89) (v := ?_) (a' := ?_) #[true, true, true, true, true, true, true, true, true, true, true, true, true, false] rfl rfl (by kernel_rfl) (fun _ _ _ h => h) (Or.inl ⟨by rfl, ?_⟩) ?_ ?_
              rotate_left
              · intro w'
                go_simp
                with_reducible rfl
              rotate_left
              · simp only [Act.put, List.setIfInBounds_toArray, List.set_cons_zero, List.set_cons_succ, i64_w, i32_w]
                rfl
              refine last_ (i := 13) (N := none) #[true, true, true, true, true, true, true, true, true, true, true, true, true, true] rfl rfl (by kernel_rfl) (by decide) (fun K hK => ?_)
              refine skip_ (w1 := ?_) (by rfl) rfl ?_ ?_
              rotate_left
              · go_simp
                rfl
              refine hK.out _ _ ?_
              clear hK K
              refine done_ (by kernel_rfl) ?_

              go_wp2
              go_roundw
              case measure => first | (simp [intOf]; done) | (simp [intOf]; omega)
              case rel =>
                have hput := (hO3.out.hit ((Chg.refl (fun _ => False) w3).drew) Hits.no).putF hzA.out hrA.out hxA.out hfA.out (((hm3.out.cut).chg ((Chg.refl (fun _ => False) w3).drew) (fun _ _ h => h)))
                have hs : Chg (fun b => (svl (some ⟨gf, 0, none⟩, x.frames.length, fC)).ownBlock = some b) w3 (w3.drew.setCell ⟨gf, k * 3 + 2, none⟩ (.slice mA f.slots.length mC)) := ((Chg.refl (fun b => (svl (some ⟨gf, 0, none⟩, x.frames.length, fC)).ownBlock = some b) w3).drew).setCell (p := ⟨gf, k * 3 + 2, none⟩) (fun _ => rfl) _
                have hsv := Hits.own (lo := W0.heap.size) (ts := [52]) hbc3.out (by decide)
                have hsq := Hits.own (lo := W0.heap.size) (ts := [56]) hbc3.out (by decide)
                refine ⟨k + 1, A4, n4, c4, _, _, rfl, by go_num, by omega, ⟨hput⟩, ⟨by rw [set_fst hzA.out]; exact hZ.out⟩, ⟨hR3.out.hit hs hsv (by decide)⟩, ⟨by rw [← Nat.add_assoc, ← hnA.out]; exact (hM3.out.step hrxA.out hm3.out).hit hs hsq⟩, ⟨hCh3.out.trans hs (fun b hb hS => by have := hbc3.out.2 b hS; omega)⟩, ⟨hs.blk hB33.out (fun e => hgb.out (Option.some.inj (show some gf = some b3 from e)).symm)⟩⟩
            · obtain rfl : k = x.frames.length := by omega
              clear hk hlt
              go_wp2
              go_roundw
              case measure => first | (simp [intOf]; done) | (simp [intOf]; omega)
              case rel => exact ⟨j + 1, rA, rN, rC, Z, ms, rfl, by go_num, by omega, hO, hZ, hR, ⟨by rw [hof.out, ← Nat.add_assoc]; exact hM.out⟩, hCh, hB3⟩
        · obtain rfl : j = s.fibers.length := by omega
          have hB2w : wr.heap[w.heap.size + 1]? = some (.cells #[.slice none 0 0, .slice none 0 0, .slice none 0 0, .int .i64 0, .int .i64 0, .int .i64 0, .int .i64 0] 40) := bk
          have hlt2 := blk_lt B2.out
          have q0 := blk_cell hB3.out 0
          have q1 := blk_cell hB3.out 1
          have q2 := blk_cell hB3.out 2
          have q3 := blk_cell hB3.out 3
          have q4 := blk_cell hB3.out 4
          have q5 := blk_cell hB3.out 5
          have q6 := blk_cell hB3.out 6
          have t0 := blk_cell hB2w 0
          have t1 := blk_cell hB2w 1
          have t2 := blk_cell hB2w 2
          have t3 := blk_cell hB2w 3
          have t4 := blk_cell hB2w 4
          have t5 := blk_cell hB2w 5
          have t6 := blk_cell hB2w 6
          have u0 := blk_frozen hB2w 0
          have u1 := blk_frozen hB2w 1
          have u2 := blk_frozen hB2w 2
          have u3 := blk_frozen hB2w 3
          have u4 := blk_frozen hB2w 4
          have u5 := blk_frozen hB2w 5
          have u6 := blk_frozen hB2w 6
          replace hB2w := Aside0.mk hB2w
          go_wp2
          (try simp only [Exit.inBlock, Exit.then])
          refine bodyPost_ret (results_c2 rfl _ _ _ _ rfl _ (run_loadVar_row _ _ _ _ _ _ _ (blk_set (blk_set (blk_set (blk_set (blk_set (blk_set (blk_set hB2w.out 0 (.slice A1 n1 c1)) 1 (.slice A2 s.objs.length c2)) 2 (.slice A3 s.fibers.length c3)) 3 (.int .i64 s.cur)) 4 (.int .i64 s.steps)) 5 (.int .i64 s.spent)) 6 (.int .i64 s.read)) Try.underlying40 rfl (by kernel_rfl))) rfl ?_
          have hfin := (Chg.setCell (Chg.setCell (Chg.setCell (Chg.setCell (Chg.setCell (Chg.setCell (Chg.setCell (Chg.refl (fun k => k = w.heap.size + 1) wr) (p := ⟨w.heap.size + 1, 0, none⟩) (fun _ => rfl) (.slice A1 n1 c1)) (p := ⟨w.heap.size + 1, 1, none⟩) (fun _ => rfl) (.slice A2 s.objs.length c2)) (p := ⟨w.heap.size + 1, 2, none⟩) (fun _ => rfl) (.slice A3 s.fibers.length c3)) (p := ⟨w.heap.size + 1, 3, none⟩) (fun _ => rfl) (.int .i64 s.cur)) (p := ⟨w.heap.size + 1, 4, none⟩) (fun _ => rfl) (.int .i64 s.steps)) (p := ⟨w.heap.size + 1, 5, none⟩) (fun _ => rfl) (.int .i64 s.spent)) (p := ⟨w.heap.size + 1, 6, none⟩) (fun _ => rfl) (.int .i64 s.read))
          have hlo := hz0.out.size
          have hhn : ∀ ts, Hits wr W0.heap.size (fun k => k = w.heap.size + 1) ts := fun ts => Hits.old (fun b hb => by omega)
          have hMf := hM.out
          rw [List.take_of_length_le (by rw [rowsS, List.length_append, List.length_map, offB, List.take_length]; omega)] at hMf
          refine ⟨(A1, n1, c1), (A2, s.objs.length, c2), (A3, s.fibers.length, c3), (rA, rN, rC), ros, Z, ms, rfl, (hO.out.hit hfin (hhn _)).mono hlo, (hR.out.hit hfin (hhn [52]) (by decide)).mono hlo, (hMf.hit hfin (hhn _)).mono hlo, (hz0.out.trans hCh.out (fun _ _ h => h)).trans hfin (fun k hk h => by omega)⟩
end Go.Proofs.Ytdoghjmanogelaa.K
