import Derived.Test.YtdoghjmanogelaaUi
import Derived.Test.YtdoghjmanogelaaVz
import Derived.IntWalk
import Derived.BigQuiet
import Derived.Deep.RegionHeld3
namespace Go.Proofs.Ytdoghjmanogelaa.K
open Go.RowKit Go.Proofs.YtdoghjmanogelaaW.PrintWords Go.Proofs.YtdoghjmanogelaaW.PrintLast Go.Proofs.YtdoghjmanogelaaW.PrintMore
set_option linter.unusedVariables false
set_option linter.unusedSimpArgs false
set_option maxRecDepth 100000

set_option maxHeartbeats 4000000
theorem eqf_Objects (w : World) (A B : Option Addr) (n m ca cb : Nat) (rs qs : List RO) (l l2 : List QO) (h1 : Kd.C kRO w A n rs) (h2 : Kd.C kRO w B m qs) (e1 : rs.length = l.length) (e2 : qs.length = l2.length) (r1 : ∀ (k : Nat) (r : RO) (x : QO), rs[k]? = some r → l[k]? = some x → RawO w r x) (r2 : ∀ (k : Nat) (r : RO) (x : QO), qs[k]? = some r → l2[k]? = some x → RawO w r x) :
    Calls Try.prog 75 #[.slice A n ca, .slice B m cb, .func (.func 76) #[] #[]] w (Told (l = l2) w) := by
  have e3 := h1.1
  have e4 := h2.1
  have hb := h1.2.1
  have hb2 := h2.2.1
  rw [e1] at e3
  rw [e2] at e4
  subst e3 e4
  have hCA := Aside0.mk h1
  have hDA := Aside0.mk h2
  have hrA := Aside0.mk r1
  have hqA := Aside0.mk r2
  clear h1 h2 e1 e2 r1 r2
  by_cases hlen : l.length = l2.length
  · go_enter Try.func75, Try.ntmps75
    go_wp2
    go_loopw [17] (fun i wr => ∃ k : Nat, i = .int .i64 k ∧ k ≤ l.length ∧ Aside0 (l.take k = l2.take k) ∧ Aside0 (Chg (fun _ => False) w wr)) (fun i _ => l.length - (intOf i).toNat)
    case atStart => exact ⟨0, rfl, by omega, ⟨rfl⟩, ⟨Chg.refl _ _⟩⟩
    case round =>
      obtain ⟨k, rfl, hk, hE, hCh⟩ := hrel
      by_cases hlt : k < l.length
      · have hlt0 := hlt
        obtain ⟨ad, r, e1, e2, x0, x1, x2, x3, x4, x5⟩ := atRO (l := rs) (w := wr) cC k hlt
        obtain ⟨bd, q, e3, e4, y0, y1, y2, y3, y4, y5⟩ := atRO (l := qs) (w := wr) cC k (by omega)
        subst e1 e3
        have hk0 : (0 : Int) ≤ k := by omega
        have hk1 : (k : Int) < l.length := by omega
        have hk2 : (k : Int) < l2.length := by omega
        obtain ⟨x, hx⟩ : ∃ x, l[k]? = some x := ⟨_, List.getElem?_eq_getElem hlt⟩
        obtain ⟨y, hy⟩ : ∃ y, l2[k]? = some y := ⟨_, List.getElem?_eq_getElem (by omega)⟩
        have hr := Aside0.mk ((hrA.out k r x e2 hx).below (w' := wr) bl)
        have hq := Aside0.mk ((hqA.out k q y e4 hy).below (w' := wr) bl)
        have hxA := Aside0.mk hx
        have hyA := Aside0.mk hy
        have hlenA := Aside0.mk hlen
        clear e2 e4 hx hy hlen
        go_upto_region 6 with (fail)
        (try simp only [Act.put, List.setIfInBounds_toArray, List.set_cons_zero, List.set_cons_succ])
        generalize hW : World.alloc wr _ = Wa
        obtain ⟨g1, hg1⟩ : ∃ g, g = wr.heap.size := ⟨_, rfl⟩
        rw [← hg1]
        have b1 : Aside0 (Wa.heap[g1]? = some (.cells #[.int .i64 r.kind, .slice r.items.1 r.items.2.1 r.items.2.2, .slice r.keys.1 r.keys.2.1 r.keys.2.2, .int .i64 r.fn, .int .i64 r.cap, .bool r.shut] 59)) := ⟨by rw [hg1, ← hW]; exact heap_alloc_new wr _⟩
        have hz1 : Aside0 (Chg (fun _ => False) wr Wa) := ⟨by rw [← hW]; exact cg⟩
        clear hW hg1
        replace y0 := cell_chg0 y0 hz1.out
        replace y1 := cell_chg0 y1 hz1.out
        replace y2 := cell_chg0 y2 hz1.out
        replace y3 := cell_chg0 y3 hz1.out
        replace y4 := cell_chg0 y4 hz1.out
        replace y5 := cell_chg0 y5 hz1.out
        clear x0 x1 x2 x3 x4 x5
        go_upto_region 7 with (fail)
        (try simp only [Act.put, List.setIfInBounds_toArray, List.set_cons_zero, List.set_cons_succ])
        generalize hW : World.alloc Wa _ = Wb
        obtain ⟨g2, hg2⟩ : ∃ g, g = Wa.heap.size := ⟨_, rfl⟩
        rw [← hg2]
        have b2 : Aside0 (Wb.heap[g2]? = some (.cells #[.int .i64 q.kind, .slice q.items.1 q.items.2.1 q.items.2.2, .slice q.keys.1 q.keys.2.1 q.keys.2.2, .int .i64 q.fn, .int .i64 q.cap, .bool q.shut] 59)) := ⟨by rw [hg2, ← hW]; exact heap_alloc_new Wa _⟩
        have hz2 : Aside0 (Chg (fun _ => False) Wa Wb) := ⟨by rw [← hW]; exact cg⟩
        clear hW hg2 y0 y1 y2 y3 y4 y5
        replace b1 := Aside0.mk (hz2.out.blk b1.out (fun h => h))
        have x0 : Wb.cell? ⟨g1, 0, none⟩ = some (.int .i64 r.kind) := blk_cell b1.out 0
        have x1 : Wb.cell? ⟨g1, 1, none⟩ = some (.slice r.items.1 r.items.2.1 r.items.2.2) := blk_cell b1.out 1
        have x2 : Wb.cell? ⟨g1, 2, none⟩ = some (.slice r.keys.1 r.keys.2.1 r.keys.2.2) := blk_cell b1.out 2
        have x3 : Wb.cell? ⟨g1, 3, none⟩ = some (.int .i64 r.fn) := blk_cell b1.out 3
        have x4 : Wb.cell? ⟨g1, 4, none⟩ = some (.int .i64 r.cap) := blk_cell b1.out 4
        have x5 : Wb.cell? ⟨g1, 5, none⟩ = some (.bool r.shut) := blk_cell b1.out 5
        have y0 : Wb.cell? ⟨g2, 0, none⟩ = some (.int .i64 q.kind) := blk_cell b2.out 0
        have y1 : Wb.cell? ⟨g2, 1, none⟩ = some (.slice q.items.1 q.items.2.1 q.items.2.2) := blk_cell b2.out 1
        have y2 : Wb.cell? ⟨g2, 2, none⟩ = some (.slice q.keys.1 q.keys.2.1 q.keys.2.2) := blk_cell b2.out 2
        have y3 : Wb.cell? ⟨g2, 3, none⟩ = some (.int .i64 q.fn) := blk_cell b2.out 3
        have y4 : Wb.cell? ⟨g2, 4, none⟩ = some (.int .i64 q.cap) := blk_cell b2.out 4
        have y5 : Wb.cell? ⟨g2, 5, none⟩ = some (.bool q.shut) := blk_cell b2.out 5
        by_cases hxy : x = y
        · have hxy2 := Aside0.mk hxy
          replace hxy := Aside0.mk hxy
          go_wp2_with ((go_at_call 76; go_must (refine (told_yes (eq_Object _ r q x y (hr.out.below bl) (hq.out.below bl)) hxy.out).mono ?_); go_must (rintro e w3 ⟨rfl, hc3⟩); go_must (replace hc3 := Aside0.mk hc3)))
          go_roundw
          case measure => first | (simp [intOf]; done) | (simp [intOf]; omega)
          case rel => exact ⟨k + 1, by go_num, by omega, ⟨take_eq_succ hE.out hxA.out (by rw [hxy2.out]; exact hyA.out)⟩, ⟨cg⟩⟩
        · have hno : Aside0 (l ≠ l2) := ⟨fun h => by rw [h, hyA.out] at hxA; exact hxy (Option.some.inj hxA.out).symm⟩
          replace hxy := Aside0.mk hxy
          go_wp2_with ((go_at_call 76; go_must (refine (told_no (eq_Object _ r q x y (hr.out.below bl) (hq.out.below bl)) hxy.out).mono ?_); go_must (rintro e w3 ⟨rfl, hc3⟩); go_must (replace hc3 := Aside0.mk hc3)))
          go_ret
          exact ⟨false, by simp, ⟨fun h => (by cases h), fun h => absurd h hno.out⟩, cg⟩
      · obtain rfl : k = l.length := by omega
        go_wp2
        go_ret
        have h := hE.out
        rw [List.take_length, hlen, List.take_length] at h
        exact ⟨true, rfl, by simp [h], cg⟩
  · have hne : ((l.length : Int) != l2.length) = true := by rw [bne_iff_ne]; omega
    have hlA := Aside0.mk hlen
    clear hlen
    go_enter Try.func75, Try.ntmps75
    go_wp2
    go_ret
    exact ⟨false, rfl, ⟨fun h => (by cases h), fun h => absurd (congrArg List.length h) hlA.out⟩, cg⟩
theorem eqf_Frames (w : World) (A B : Option Addr) (n m ca cb : Nat) (rs qs : List RF) (l l2 : List QFr) (h1 : Kd.C kRF w A n rs) (h2 : Kd.C kRF w B m qs) (e1 : rs.length = l.length) (e2 : qs.length = l2.length) (r1 : ∀ (k : Nat) (r : RF) (x : QFr), rs[k]? = some r → l[k]? = some x → RawF w r x) (r2 : ∀ (k : Nat) (r : RF) (x : QFr), qs[k]? = some r → l2[k]? = some x → RawF w r x) :
    Calls Try.prog 93 #[.slice A n ca, .slice B m cb, .func (.func 94) #[] #[]] w (Told (l = l2) w) := by
  have e3 := h1.1
  have e4 := h2.1
  have hb := h1.2.1
  have hb2 := h2.2.1
  rw [e1] at e3
  rw [e2] at e4
  subst e3 e4
  have hCA := Aside0.mk h1
  have hDA := Aside0.mk h2
  have hrA := Aside0.mk r1
  have hqA := Aside0.mk r2
  clear h1 h2 e1 e2 r1 r2
  by_cases hlen : l.length = l2.length
  · go_enter Try.func93, Try.ntmps93
    go_wp2
    go_loopw [17] (fun i wr => ∃ k : Nat, i = .int .i64 k ∧ k ≤ l.length ∧ Aside0 (l.take k = l2.take k) ∧ Aside0 (Chg (fun _ => False) w wr)) (fun i _ => l.length - (intOf i).toNat)
    case atStart => exact ⟨0, rfl, by omega, ⟨rfl⟩, ⟨Chg.refl _ _⟩⟩
    case round =>
      obtain ⟨k, rfl, hk, hE, hCh⟩ := hrel
      by_cases hlt : k < l.length
      · have hlt0 := hlt
        obtain ⟨ad, r, e1, e2, x0, x1, x2⟩ := atRF (l := rs) (w := wr) cC k hlt
        obtain ⟨bd, q, e3, e4, y0, y1, y2⟩ := atRF (l := qs) (w := wr) cC k (by omega)
        subst e1 e3
        have hk0 : (0 : Int) ≤ k := by omega
        have hk1 : (k : Int) < l.length := by omega
        have hk2 : (k : Int) < l2.length := by omega
        obtain ⟨x, hx⟩ : ∃ x, l[k]? = some x := ⟨_, List.getElem?_eq_getElem hlt⟩
        obtain ⟨y, hy⟩ : ∃ y, l2[k]? = some y := ⟨_, List.getElem?_eq_getElem (by omega)⟩
        have hr := Aside0.mk ((hrA.out k r x e2 hx).below (w' := wr) bl)
        have hq := Aside0.mk ((hqA.out k q y e4 hy).below (w' := wr) bl)
        have hxA := Aside0.mk hx
        have hyA := Aside0.mk hy
        have hlenA := Aside0.mk hlen
        clear e2 e4 hx hy hlen
        go_upto_region 6 with (fail)
        (try simp only [Act.put, List.setIfInBounds_toArray, List.set_cons_zero, List.set_cons_succ])
        generalize hW : World.alloc wr _ = Wa
        obtain ⟨g1, hg1⟩ : ∃ g, g = wr.heap.size := ⟨_, rfl⟩
        rw [← hg1]
        have b1 : Aside0 (Wa.heap[g1]? = some (.cells #[.int .i64 r.fn, .int .i64 r.pc, .slice r.slots.1 r.slots.2.1 r.slots.2.2] 54)) := ⟨by rw [hg1, ← hW]; exact heap_alloc_new wr _⟩
        have hz1 : Aside0 (Chg (fun _ => False) wr Wa) := ⟨by rw [← hW]; exact cg⟩
        clear hW hg1
        replace y0 := cell_chg0 y0 hz1.out
        replace y1 := cell_chg0 y1 hz1.out
        replace y2 := cell_chg0 y2 hz1.out
        clear x0 x1 x2
        go_upto_region 7 with (fail)
        (try simp only [Act.put, List.setIfInBounds_toArray, List.set_cons_zero, List.set_cons_succ])
        generalize hW : World.alloc Wa _ = Wb
        obtain ⟨g2, hg2⟩ : ∃ g, g = Wa.heap.size := ⟨_, rfl⟩
        rw [← hg2]
        have b2 : Aside0 (Wb.heap[g2]? = some (.cells #[.int .i64 q.fn, .int .i64 q.pc, .slice q.slots.1 q.slots.2.1 q.slots.2.2] 54)) := ⟨by rw [hg2, ← hW]; exact heap_alloc_new Wa _⟩
        have hz2 : Aside0 (Chg (fun _ => False) Wa Wb) := ⟨by rw [← hW]; exact cg⟩
        clear hW hg2 y0 y1 y2
        replace b1 := Aside0.mk (hz2.out.blk b1.out (fun h => h))
        have x0 : Wb.cell? ⟨g1, 0, none⟩ = some (.int .i64 r.fn) := blk_cell b1.out 0
        have x1 : Wb.cell? ⟨g1, 1, none⟩ = some (.int .i64 r.pc) := blk_cell b1.out 1
        have x2 : Wb.cell? ⟨g1, 2, none⟩ = some (.slice r.slots.1 r.slots.2.1 r.slots.2.2) := blk_cell b1.out 2
        have y0 : Wb.cell? ⟨g2, 0, none⟩ = some (.int .i64 q.fn) := blk_cell b2.out 0
        have y1 : Wb.cell? ⟨g2, 1, none⟩ = some (.int .i64 q.pc) := blk_cell b2.out 1
        have y2 : Wb.cell? ⟨g2, 2, none⟩ = some (.slice q.slots.1 q.slots.2.1 q.slots.2.2) := blk_cell b2.out 2
        by_cases hxy : x = y
        · have hxy2 := Aside0.mk hxy
          replace hxy := Aside0.mk hxy
          go_wp2_with ((go_at_call 94; go_must (refine (told_yes (eq_Frame _ r q x y (hr.out.below bl) (hq.out.below bl)) hxy.out).mono ?_); go_must (rintro e w3 ⟨rfl, hc3⟩); go_must (replace hc3 := Aside0.mk hc3)))
          go_roundw
          case measure => first | (simp [intOf]; done) | (simp [intOf]; omega)
          case rel => exact ⟨k + 1, by go_num, by omega, ⟨take_eq_succ hE.out hxA.out (by rw [hxy2.out]; exact hyA.out)⟩, ⟨cg⟩⟩
        · have hno : Aside0 (l ≠ l2) := ⟨fun h => by rw [h, hyA.out] at hxA; exact hxy (Option.some.inj hxA.out).symm⟩
          replace hxy := Aside0.mk hxy
          go_wp2_with ((go_at_call 94; go_must (refine (told_no (eq_Frame _ r q x y (hr.out.below bl) (hq.out.below bl)) hxy.out).mono ?_); go_must (rintro e w3 ⟨rfl, hc3⟩); go_must (replace hc3 := Aside0.mk hc3)))
          go_ret
          exact ⟨false, by simp, ⟨fun h => (by cases h), fun h => absurd h hno.out⟩, cg⟩
      · obtain rfl : k = l.length := by omega
        go_wp2
        go_ret
        have h := hE.out
        rw [List.take_length, hlen, List.take_length] at h
        exact ⟨true, rfl, by simp [h], cg⟩
  · have hne : ((l.length : Int) != l2.length) = true := by rw [bne_iff_ne]; omega
    have hlA := Aside0.mk hlen
    clear hlen
    go_enter Try.func93, Try.ntmps93
    go_wp2
    go_ret
    exact ⟨false, rfl, ⟨fun h => (by cases h), fun h => absurd (congrArg List.length h) hlA.out⟩, cg⟩
theorem eq_Fiber (w : World) (z u : RB) (lz lu : List RF) (x y : QB) (h1 : RawB w z lz x) (h2 : RawB w u lu y) :
    Calls Try.prog 78 #[.agg #[.slice z.frames.1 z.frames.2.1 z.frames.2.2], .agg #[.slice u.frames.1 u.frames.2.1 u.frames.2.2]] w (Told (x = y) w) := by
  have hfr : x = y ↔ x.frames = y.frames := ⟨fun h => (by rw [h]), fun h => (by cases x; cases y; simp only at h; rw [h])⟩
  obtain ⟨⟨zA, zN, zC⟩⟩ := z
  obtain ⟨⟨uA, uN, uC⟩⟩ := u
  have hr := Aside0.mk h1
  have hq := Aside0.mk h2
  replace hfr := Aside0.mk hfr
  clear h1 h2
  go_enter Try.func78, Try.ntmps78
  go_wp2_with ((go_at_call 93; go_must (refine (told_of hfr.out (eqf_Frames _ zA uA zN uN zC uC lz lu x.frames y.frames (hr.out.below bl).1 (hq.out.below bl).1 hr.out.2.1 hq.out.2.1 (hr.out.below bl).2.2 (hq.out.below bl).2.2)).mono ?_); go_must (rintro e w3 ⟨b9, rfl, hb9, hc3⟩); go_must (replace hc3 := Aside0.mk hc3); go_must (replace hb9 := Aside0.mk hb9)))
  go_ret
  exact ⟨b9, rfl, hb9.out, cg⟩
theorem eqf_Fibers (w : World) (A B : Option Addr) (n m ca cb : Nat) (rs qs : List (RB × List RF)) (l l2 : List QB) (h1 : Kd.C kRB w A n (rs.map (·.1))) (h2 : Kd.C kRB w B m (qs.map (·.1))) (e1 : rs.length = l.length) (e2 : qs.length = l2.length) (r1 : ∀ (k : Nat) (z : RB × List RF) (x : QB), rs[k]? = some z → l[k]? = some x → RawB w z.1 z.2 x) (r2 : ∀ (k : Nat) (z : RB × List RF) (x : QB), qs[k]? = some z → l2[k]? = some x → RawB w z.1 z.2 x) :
    Calls Try.prog 77 #[.slice A n ca, .slice B m cb, .func (.func 78) #[] #[]] w (Told (l = l2) w) := by
  have e3 := h1.1
  have e4 := h2.1
  have hb := h1.2.1
  have hb2 := h2.2.1
  rw [List.length_map, e1] at e3
  rw [List.length_map, e2] at e4
  subst e3 e4
  have hCA := Aside0.mk h1
  have hDA := Aside0.mk h2
  have hrA := Aside0.mk r1
  have hqA := Aside0.mk r2
  clear h1 h2 e1 e2 r1 r2
  by_cases hlen : l.length = l2.length
  · go_enter Try.func77, Try.ntmps77
    go_wp2
    go_loopw [17] (fun i wr => ∃ k : Nat, i = .int .i64 k ∧ k ≤ l.length ∧ Aside0 (l.take k = l2.take k) ∧ Aside0 (Chg (fun _ => False) w wr)) (fun i _ => l.length - (intOf i).toNat)
    case atStart => exact ⟨0, rfl, by omega, ⟨rfl⟩, ⟨Chg.refl _ _⟩⟩
    case round =>
      obtain ⟨k, rfl, hk, hE, hCh⟩ := hrel
      by_cases hlt : k < l.length
      · have hlt0 := hlt
        obtain ⟨ad, r, e1, e2, x0⟩ := atRB (l := rs.map (·.1)) (w := wr) cC k hlt
        obtain ⟨bd, q, e3, e4, y0⟩ := atRB (l := qs.map (·.1)) (w := wr) cC k (by omega)
        subst e1 e3
        have hk0 : (0 : Int) ≤ k := by omega
        have hk1 : (k : Int) < l.length := by omega
        have hk2 : (k : Int) < l2.length := by omega
        obtain ⟨x, hx⟩ : ∃ x, l[k]? = some x := ⟨_, List.getElem?_eq_getElem hlt⟩
        obtain ⟨y, hy⟩ : ∃ y, l2[k]? = some y := ⟨_, List.getElem?_eq_getElem (by omega)⟩
        obtain ⟨z, hz, rfl⟩ := pair_at e2
        obtain ⟨u, hu, rfl⟩ := pair_at e4
        have hr := Aside0.mk ((hrA.out k z x hz hx).below (w' := wr) bl)
        have hq := Aside0.mk ((hqA.out k u y hu hy).below (w' := wr) bl)
        clear hz hu
        have hxA := Aside0.mk hx
        have hyA := Aside0.mk hy
        have hlenA := Aside0.mk hlen
        clear e2 e4 hx hy hlen
        go_upto_region 6 with (fail)
        (try simp only [Act.put, List.setIfInBounds_toArray, List.set_cons_zero, List.set_cons_succ])
        generalize hW : World.alloc wr _ = Wa
        obtain ⟨g1, hg1⟩ : ∃ g, g = wr.heap.size := ⟨_, rfl⟩
        rw [← hg1]
        have b1 : Aside0 (Wa.heap[g1]? = some (.cells #[.slice z.1.frames.1 z.1.frames.2.1 z.1.frames.2.2] 51)) := ⟨by rw [hg1, ← hW]; exact heap_alloc_new wr _⟩
        have hz1 : Aside0 (Chg (fun _ => False) wr Wa) := ⟨by rw [← hW]; exact cg⟩
        clear hW hg1
        replace y0 := cell_chg0 y0 hz1.out
        clear x0
        go_upto_region 7 with (fail)
        (try simp only [Act.put, List.setIfInBounds_toArray, List.set_cons_zero, List.set_cons_succ])
        generalize hW : World.alloc Wa _ = Wb
        obtain ⟨g2, hg2⟩ : ∃ g, g = Wa.heap.size := ⟨_, rfl⟩
        rw [← hg2]
        have b2 : Aside0 (Wb.heap[g2]? = some (.cells #[.slice u.1.frames.1 u.1.frames.2.1 u.1.frames.2.2] 51)) := ⟨by rw [hg2, ← hW]; exact heap_alloc_new Wa _⟩
        have hz2 : Aside0 (Chg (fun _ => False) Wa Wb) := ⟨by rw [← hW]; exact cg⟩
        clear hW hg2 y0
        replace b1 := Aside0.mk (hz2.out.blk b1.out (fun h => h))
        have x0 : Wb.cell? ⟨g1, 0, none⟩ = some (.slice z.1.frames.1 z.1.frames.2.1 z.1.frames.2.2) := blk_cell b1.out 0
        have y0 : Wb.cell? ⟨g2, 0, none⟩ = some (.slice u.1.frames.1 u.1.frames.2.1 u.1.frames.2.2) := blk_cell b2.out 0
        by_cases hxy : x = y
        · have hxy2 := Aside0.mk hxy
          replace hxy := Aside0.mk hxy
          go_wp2_with ((go_at_call 78; go_must (refine (told_yes (eq_Fiber _ z.1 u.1 z.2 u.2 x y (hr.out.below bl) (hq.out.below bl)) hxy.out).mono ?_); go_must (rintro e w3 ⟨rfl, hc3⟩); go_must (replace hc3 := Aside0.mk hc3)))
          go_roundw
          case measure => first | (simp [intOf]; done) | (simp [intOf]; omega)
          case rel => exact ⟨k + 1, by go_num, by omega, ⟨take_eq_succ hE.out hxA.out (by rw [hxy2.out]; exact hyA.out)⟩, ⟨cg⟩⟩
        · have hno : Aside0 (l ≠ l2) := ⟨fun h => by rw [h, hyA.out] at hxA; exact hxy (Option.some.inj hxA.out).symm⟩
          replace hxy := Aside0.mk hxy
          go_wp2_with ((go_at_call 78; go_must (refine (told_no (eq_Fiber _ z.1 u.1 z.2 u.2 x y (hr.out.below bl) (hq.out.below bl)) hxy.out).mono ?_); go_must (rintro e w3 ⟨rfl, hc3⟩); go_must (replace hc3 := Aside0.mk hc3)))
          go_ret
          exact ⟨false, by simp, ⟨fun h => (by cases h), fun h => absurd h hno.out⟩, cg⟩
      · obtain rfl : k = l.length := by omega
        go_wp2
        go_ret
        have h := hE.out
        rw [List.take_length, hlen, List.take_length] at h
        exact ⟨true, rfl, by simp [h], cg⟩
  · have hne : ((l.length : Int) != l2.length) = true := by rw [bne_iff_ne]; omega
    have hlA := Aside0.mk hlen
    clear hlen
    go_enter Try.func77, Try.ntmps77
    go_wp2
    go_ret
    exact ⟨false, rfl, ⟨fun h => (by cases h), fun h => absurd (congrArg List.length h) hlA.out⟩, cg⟩
end Go.Proofs.Ytdoghjmanogelaa.K
