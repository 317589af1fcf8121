import Derived.Test.YtdoghjmanogelaaSe
import Derived.Test.YtdoghjmanogelaaZa
import Derived.IntWalk
import Derived.BigQuiet
namespace Go.Proofs.Ytdoghjmanogelaa.K
open Go.RowKit Go.Proofs.YtdoghjmanogelaaW.PrintWords Go.Proofs.YtdoghjmanogelaaW.PrintLast Go.Proofs.YtdoghjmanogelaaW.PrintMore
set_option linter.unusedVariables false
set_option linter.unusedSimpArgs false
set_option maxRecDepth 100000

theorem ref_SameObject (w : World) (r q : RO) (x : QO) (h1 : RawO w r x) (h2 : RawO w q x) :
    Calls Try.prog 88 #[.agg (cellsRO r).toArray, .agg (cellsRO q).toArray] w fun e w' => e = .returned (.bool true) ∧ Chg (fun _ => False) w w' := by
  obtain ⟨k1, ⟨iA, iN, iC⟩, ⟨kA, kN, kC⟩, f1, c1, s1⟩ := r
  obtain ⟨k2, ⟨jA, jN, jC⟩, ⟨lA, lN, lC⟩, f2, c2, s2⟩ := q
  obtain ⟨xk, xi, xs, xf, xc, xh⟩ := x
  obtain ⟨a1, a2, a3, a4, a5, a6⟩ := h1
  obtain ⟨b1, b2, b3, b4, b5, b6⟩ := h2
  simp only at a1 a2 a3 a4 a5 a6 b1 b2 b3 b4 b5 b6
  subst a1 a2 a3 a4 b1 b2 b3 b4
  replace a5 := Aside0.mk a5
  replace a6 := Aside0.mk a6
  replace b5 := Aside0.mk b5
  replace b6 := Aside0.mk b6
  have B1 : Aside0 ((w.alloc (.cells #[.int .i64 k2, .slice iA iN iC, .slice kA kN kC, .int .i64 f2, .int .i64 c2, .bool s2] 59)).heap[w.heap.size]? = some (.cells #[.int .i64 k2, .slice iA iN iC, .slice kA kN kC, .int .i64 f2, .int .i64 c2, .bool s2] 59)) := ⟨heap_alloc_new w _⟩
  have B2 : Aside0 (((w.alloc (.cells #[.int .i64 k2, .slice iA iN iC, .slice kA kN kC, .int .i64 f2, .int .i64 c2, .bool s2] 59)).alloc (.cells #[.int .i64 k2, .slice jA jN jC, .slice lA lN lC, .int .i64 f2, .int .i64 c2, .bool s2] 59)).heap[w.heap.size + 1]? = some (.cells #[.int .i64 k2, .slice jA jN jC, .slice lA lN lC, .int .i64 f2, .int .i64 c2, .bool s2] 59)) := ⟨heap_alloc2_new w _ _⟩
  go_enter Try.func88, Try.ntmps88
  go_wp2_with (first | (go_at_call 100; go_must (refine (kit_SameValues _ iA jA iN jN iC jC xi cC cC).mono ?_); go_must (rintro e w1 ⟨rfl, hc1⟩); go_must (replace hc1 := Aside0.mk hc1); go_must (have p1_0 : w1.cell? ⟨w.heap.size, 2, none⟩ = some (.slice kA kN kC) := blk_cell (cs := #[.int .i64 k2, .slice iA iN iC, .slice kA kN kC, .int .i64 f2, .int .i64 c2, .bool s2]) (t := 59) bk 2); go_must (have p1_1 : w1.cell? ⟨w.heap.size + 1, 2, none⟩ = some (.slice lA lN lC) := blk_cell (cs := #[.int .i64 k2, .slice jA jN jC, .slice lA lN lC, .int .i64 f2, .int .i64 c2, .bool s2]) (t := 59) bk 2)) | (go_at_call 101; go_must (refine (ref_SameLongs _ kA lA kN lN kC lC xs cC cC).mono ?_); go_must (rintro e w2 ⟨rfl, hc2⟩); go_must (replace hc2 := Aside0.mk hc2)))
  go_ret
  exact ⟨rfl, cg⟩
theorem ref_SameFrame (w : World) (r q : RF) (x : QFr) (h1 : RawF w r x) (h2 : RawF w q x) :
    Calls Try.prog 102 #[.agg (cellsRF r).toArray, .agg (cellsRF q).toArray] w fun e w' => e = .returned (.bool true) ∧ Chg (fun _ => False) w w' := by
  obtain ⟨k1, c1, ⟨iA, iN, iC⟩⟩ := r
  obtain ⟨k2, c2, ⟨jA, jN, jC⟩⟩ := q
  obtain ⟨xk, xc, xi⟩ := x
  obtain ⟨a1, a2, a5⟩ := h1
  obtain ⟨b1, b2, b5⟩ := h2
  simp only at a1 a2 a5 b1 b2 b5
  subst a1 a2 b1 b2
  replace a5 := Aside0.mk a5
  replace b5 := Aside0.mk b5
  go_enter Try.func102, Try.ntmps102
  go_wp2_with (first | (go_at_call 100; go_must (refine (kit_SameValues _ iA jA iN jN iC jC xi cC cC).mono ?_); go_must (rintro e w1 ⟨rfl, hc1⟩); go_must (replace hc1 := Aside0.mk hc1)))
  go_ret
  exact ⟨rfl, cg⟩
theorem ref_SameObjects (w : World) (A B : Option Addr) (n m ca cb : Nat) (rs qs : List RO) (l : List QO) (h1 : Kd.C kRO w A n rs) (h2 : Kd.C kRO w B m qs) (e1 : rs.length = l.length) (e2 : qs.length = l.length) (r1 : ∀ (k : Nat) (r : RO) (x : QO), rs[k]? = some r → l[k]? = some x → RawO w r x) (r2 : ∀ (k : Nat) (r : RO) (x : QO), qs[k]? = some r → l[k]? = some x → RawO w r x) :
    Calls Try.prog 64 #[.slice A n ca, .slice B m cb] w fun e w' => e = .returned (.bool true) ∧ Chg (fun _ => False) w w' := by
  have e3 := h1.1
  have e4 := h2.1
  have hb := h1.2.1
  rw [e1] at e3
  rw [e2] at e4
  subst e3 e4
  have hCA := Aside0.mk h1
  have hDA := Aside0.mk h2
  have hrA := Aside0.mk r1
  have hqA := Aside0.mk r2
  clear h1 h2 e1 e2 r1 r2
  go_enter Try.func64, Try.ntmps64
  go_wp2
  go_loopw [5] (fun i wr => ∃ k : Nat, i = .int .i64 k ∧ k ≤ l.length ∧ Aside0 (Chg (fun _ => False) w wr)) (fun i _ => l.length - (intOf i).toNat)
  case atStart => exact ⟨0, rfl, by omega, ⟨Chg.refl _ _⟩⟩
  case round =>
    obtain ⟨k, rfl, hk, hCh⟩ := hrel
    by_cases hlt : k < l.length
    · obtain ⟨ad, r, e1, e2, x0, x1, x2, x3, x4, x5⟩ := atRO (l := rs) (w := wr) cC k hlt
      obtain ⟨bd, q, e3, e4, y0, y1, y2, y3, y4, y5⟩ := atRO (l := qs) (w := wr) cC k hlt
      subst e1 e3
      have hk0 : (0 : Int) ≤ k := by omega
      have hk1 : (k : Int) < l.length := by omega
      obtain ⟨x, hx⟩ : ∃ x, l[k]? = some x := ⟨_, List.getElem?_eq_getElem hlt⟩
      have hr := Aside0.mk ((hrA.out k r x e2 hx).below (w' := wr) bl)
      have hq := Aside0.mk ((hqA.out k q x e4 hx).below (w' := wr) bl)
      clear e2 e4 hx
      go_wp2
      go_region_held3 (fun w' => w'.cell? (ad.add (k * 6)) = some (.int .i64 r.kind) ∧ w'.cell? ⟨(ad.add (k * 6)).block, (ad.add (k * 6)).off + 1, none⟩ = some (.slice r.items.1 r.items.2.1 r.items.2.2) ∧ w'.cell? ⟨(ad.add (k * 6)).block, (ad.add (k * 6)).off + 2, none⟩ = some (.slice r.keys.1 r.keys.2.1 r.keys.2.2) ∧ w'.cell? ⟨(ad.add (k * 6)).block, (ad.add (k * 6)).off + 3, none⟩ = some (.int .i64 r.fn) ∧ w'.cell? ⟨(ad.add (k * 6)).block, (ad.add (k * 6)).off + 4, none⟩ = some (.int .i64 r.cap) ∧ w'.cell? ⟨(ad.add (k * 6)).block, (ad.add (k * 6)).off + 5, none⟩ = some (.bool r.shut) ∧ w'.cell? (bd.add (k * 6)) = some (.int .i64 q.kind) ∧ w'.cell? ⟨(bd.add (k * 6)).block, (bd.add (k * 6)).off + 1, none⟩ = some (.slice q.items.1 q.items.2.1 q.items.2.2) ∧ w'.cell? ⟨(bd.add (k * 6)).block, (bd.add (k * 6)).off + 2, none⟩ = some (.slice q.keys.1 q.keys.2.1 q.keys.2.2) ∧ w'.cell? ⟨(bd.add (k * 6)).block, (bd.add (k * 6)).off + 3, none⟩ = some (.int .i64 q.fn) ∧ w'.cell? ⟨(bd.add (k * 6)).block, (bd.add (k * 6)).off + 4, none⟩ = some (.int .i64 q.cap) ∧ w'.cell? ⟨(bd.add (k * 6)).block, (bd.add (k * 6)).off + 5, none⟩ = some (.bool q.shut)) (first | exact ⟨x0, x1, x2, x3, x4, x5, y0, y1, y2, y3, y4, y5⟩ | go_keep | exact ⟨kc, kc, kc, kc, kc, kc, kc, kc, kc, kc, kc, kc⟩) ((go_at_call 88; (refine (ref_SameObject _ r q x (hr.out.below bl) (hq.out.below bl)).mono ?_); (rintro e w3 ⟨rfl, hc3⟩); (replace hc3 := Aside0.mk hc3)))
      go_wp2
      go_roundw
      case measure => first | (simp [intOf]; done) | (simp [intOf]; omega)
      case rel => exact ⟨k + 1, by go_num, by omega, ⟨cg⟩⟩
    · obtain rfl : k = l.length := by omega
      go_wp2
      go_ret
      exact ⟨rfl, cg⟩
theorem ref_SameFrames (w : World) (A B : Option Addr) (n m ca cb : Nat) (rs qs : List RF) (l : List QFr) (h1 : Kd.C kRF w A n rs) (h2 : Kd.C kRF w B m qs) (e1 : rs.length = l.length) (e2 : qs.length = l.length) (r1 : ∀ (k : Nat) (r : RF) (x : QFr), rs[k]? = some r → l[k]? = some x → RawF w r x) (r2 : ∀ (k : Nat) (r : RF) (x : QFr), qs[k]? = some r → l[k]? = some x → RawF w r x) :
    Calls Try.prog 89 #[.slice A n ca, .slice B m cb] w fun e w' => e = .returned (.bool true) ∧ Chg (fun _ => False) w w' := by
  have e3 := h1.1
  have e4 := h2.1
  have hb := h1.2.1
  rw [e1] at e3
  rw [e2] at e4
  subst e3 e4
  have hCA := Aside0.mk h1
  have hDA := Aside0.mk h2
  have hrA := Aside0.mk r1
  have hqA := Aside0.mk r2
  clear h1 h2 e1 e2 r1 r2
  go_enter Try.func89, Try.ntmps89
  go_wp2
  go_loopw [5] (fun i wr => ∃ k : Nat, i = .int .i64 k ∧ k ≤ l.length ∧ Aside0 (Chg (fun _ => False) w wr)) (fun i _ => l.length - (intOf i).toNat)
  case atStart => exact ⟨0, rfl, by omega, ⟨Chg.refl _ _⟩⟩
  case round =>
    obtain ⟨k, rfl, hk, hCh⟩ := hrel
    by_cases hlt : k < l.length
    · obtain ⟨ad, r, e1, e2, x0, x1, x2⟩ := atRF (l := rs) (w := wr) cC k hlt
      obtain ⟨bd, q, e3, e4, y0, y1, y2⟩ := atRF (l := qs) (w := wr) cC k hlt
      subst e1 e3
      have hk0 : (0 : Int) ≤ k := by omega
      have hk1 : (k : Int) < l.length := by omega
      obtain ⟨x, hx⟩ : ∃ x, l[k]? = some x := ⟨_, List.getElem?_eq_getElem hlt⟩
      have hr := Aside0.mk ((hrA.out k r x e2 hx).below (w' := wr) bl)
      have hq := Aside0.mk ((hqA.out k q x e4 hx).below (w' := wr) bl)
      clear e2 e4 hx
      go_wp2
      go_region_held3 (fun w' => w'.cell? (ad.add (k * 3)) = some (.int .i64 r.fn) ∧ w'.cell? ⟨(ad.add (k * 3)).block, (ad.add (k * 3)).off + 1, none⟩ = some (.int .i64 r.pc) ∧ w'.cell? ⟨(ad.add (k * 3)).block, (ad.add (k * 3)).off + 2, none⟩ = some (.slice r.slots.1 r.slots.2.1 r.slots.2.2) ∧ w'.cell? (bd.add (k * 3)) = some (.int .i64 q.fn) ∧ w'.cell? ⟨(bd.add (k * 3)).block, (bd.add (k * 3)).off + 1, none⟩ = some (.int .i64 q.pc) ∧ w'.cell? ⟨(bd.add (k * 3)).block, (bd.add (k * 3)).off + 2, none⟩ = some (.slice q.slots.1 q.slots.2.1 q.slots.2.2)) (first | exact ⟨x0, x1, x2, y0, y1, y2⟩ | go_keep | exact ⟨kc, kc, kc, kc, kc, kc⟩) ((go_at_call 102; (refine (ref_SameFrame _ r q x (hr.out.below bl) (hq.out.below bl)).mono ?_); (rintro e w3 ⟨rfl, hc3⟩); (replace hc3 := Aside0.mk hc3)))
      go_wp2
      go_roundw
      case measure => first | (simp [intOf]; done) | (simp [intOf]; omega)
      case rel => exact ⟨k + 1, by go_num, by omega, ⟨cg⟩⟩
    · obtain rfl : k = l.length := by omega
      go_wp2
      go_ret
      exact ⟨rfl, cg⟩
theorem pair_at {α β : Type} {Z : List (α × β)} {k : Nat} {r : α} (h : (Z.map (·.1))[k]? = some r) : ∃ z, Z[k]? = some z ∧ r = z.1 := by
  rw [List.getElem?_map] at h
  cases hz : Z[k]? with
  | none => rw [hz] at h; cases h
  | some z => rw [hz] at h; exact ⟨z, rfl, (Option.some.inj h).symm⟩
theorem ref_SameFibers (w : World) (A B : Option Addr) (n m ca cb : Nat) (Z Y : List (RB × List RF)) (l : List QB) (h1 : Kd.C kRB w A n (Z.map (·.1))) (h2 : Kd.C kRB w B m (Y.map (·.1))) (e1 : Z.length = l.length) (e2 : Y.length = l.length) (r1 : ∀ (k : Nat) (z : RB × List RF) (x : QB), Z[k]? = some z → l[k]? = some x → RawB w z.1 z.2 x) (r2 : ∀ (k : Nat) (z : RB × List RF) (x : QB), Y[k]? = some z → l[k]? = some x → RawB w z.1 z.2 x) :
    Calls Try.prog 65 #[.slice A n ca, .slice B m cb] w fun e w' => e = .returned (.bool true) ∧ Chg (fun _ => False) w w' := by
  have e3 := h1.1
  have e4 := h2.1
  have hb := h1.2.1
  rw [List.length_map, e1] at e3
  rw [List.length_map, e2] at e4
  subst e3 e4
  have hCA := Aside0.mk h1
  have hDA := Aside0.mk h2
  have hrA := Aside0.mk r1
  have hqA := Aside0.mk r2
  have hlZ := Aside0.mk e1
  have hlY := Aside0.mk e2
  clear h1 h2 e1 e2 r1 r2
  go_enter Try.func65, Try.ntmps65
  go_wp2
  go_loopw [5] (fun i wr => ∃ k : Nat, i = .int .i64 k ∧ k ≤ l.length ∧ Aside0 (Chg (fun _ => False) w wr)) (fun i _ => l.length - (intOf i).toNat)
  case atStart => exact ⟨0, rfl, by omega, ⟨Chg.refl _ _⟩⟩
  case round =>
    obtain ⟨k, rfl, hk, hCh⟩ := hrel
    by_cases hlt : k < l.length
    · obtain ⟨ad, r, e1, e2, x0⟩ := atRB (l := Z.map (·.1)) (w := wr) cC k hlt
      obtain ⟨bd, q, e3, e4, y0⟩ := atRB (l := Y.map (·.1)) (w := wr) cC k hlt
      subst e1 e3
      have hk0 : (0 : Int) ≤ k := by omega
      have hk1 : (k : Int) < l.length := by omega
      obtain ⟨x, hx⟩ : ∃ x, l[k]? = some x := ⟨_, List.getElem?_eq_getElem hlt⟩
      obtain ⟨z, hz, rfl⟩ := pair_at e2
      obtain ⟨y, hy, rfl⟩ := pair_at e4
      have hr := Aside0.mk ((hrA.out k z x hz hx).below (w' := wr) bl)
      have hq := Aside0.mk ((hqA.out k y x hy hx).below (w' := wr) bl)
      clear e2 e4 hx hz hy
      go_wp2
      go_region_held3 (fun w' => w'.cell? (ad.add k) = some (.slice z.1.frames.1 z.1.frames.2.1 z.1.frames.2.2) ∧ w'.cell? (bd.add k) = some (.slice y.1.frames.1 y.1.frames.2.1 y.1.frames.2.2)) (first | exact ⟨x0, y0⟩ | go_keep | exact ⟨kc, kc⟩) ((go_at_call 89; (refine (ref_SameFrames _ _ _ _ _ _ _ z.2 y.2 x.frames (hr.out.below bl).1 (hq.out.below bl).1 hr.out.2.1 hq.out.2.1 (hr.out.below bl).2.2 (hq.out.below bl).2.2).mono ?_); (rintro e w3 ⟨rfl, hc3⟩); (replace hc3 := Aside0.mk hc3)))
      go_wp2
      go_roundw
      case measure => first | (simp [intOf]; done) | (simp [intOf]; omega)
      case rel => exact ⟨k + 1, by go_num, by omega, ⟨cg⟩⟩
    · obtain rfl : k = l.length := by omega
      go_wp2
      go_ret
      exact ⟨rfl, cg⟩
theorem ref_SameState (w : World) (tA oA bA tA' oA' bA' : Option Addr) (tc oc bc tc' oc' bc' : Nat) (s : QS) (ros ros' : List RO) (rbs rbs' : List RB) (L L' : List (List RF)) (h : SView w tA oA bA s ros rbs L) (h' : SView w tA' oA' bA' s ros' rbs' L') :
    Calls Try.prog 22 #[.agg #[.slice tA s.texts.length tc, .slice oA s.objs.length oc, .slice bA s.fibers.length bc, .int .i64 s.cur, .int .i64 s.steps, .int .i64 s.spent, .int .i64 s.read], .agg #[.slice tA' s.texts.length tc', .slice oA' s.objs.length oc', .slice bA' s.fibers.length bc', .int .i64 s.cur, .int .i64 s.steps, .int .i64 s.spent, .int .i64 s.read]] w fun e w' => e = .returned (.bool true) ∧ Chg (fun _ => False) w w' := by
  have hV := Aside0.mk h
  have hV2 := Aside0.mk h'
  have hrol := Aside0.mk h.os.1
  have hrol' := Aside0.mk h'.os.1
  clear h h'
  have B1 : Aside0 ((w.alloc (.cells #[.slice tA s.texts.length tc, .slice oA s.objs.length oc, .slice bA s.fibers.length bc, .int .i64 s.cur, .int .i64 s.steps, .int .i64 s.spent, .int .i64 s.read] 40)).heap[w.heap.size]? = some (.cells #[.slice tA s.texts.length tc, .slice oA s.objs.length oc, .slice bA s.fibers.length bc, .int .i64 s.cur, .int .i64 s.steps, .int .i64 s.spent, .int .i64 s.read] 40)) := ⟨heap_alloc_new w _⟩
  have B2 : Aside0 (((w.alloc (.cells #[.slice tA s.texts.length tc, .slice oA s.objs.length oc, .slice bA s.fibers.length bc, .int .i64 s.cur, .int .i64 s.steps, .int .i64 s.spent, .int .i64 s.read] 40)).alloc (.cells #[.slice tA' s.texts.length tc', .slice oA' s.objs.length oc', .slice bA' s.fibers.length bc', .int .i64 s.cur, .int .i64 s.steps, .int .i64 s.spent, .int .i64 s.read] 40)).heap[w.heap.size + 1]? = some (.cells #[.slice tA' s.texts.length tc', .slice oA' s.objs.length oc', .slice bA' s.fibers.length bc', .int .i64 s.cur, .int .i64 s.steps, .int .i64 s.spent, .int .i64 s.read] 40)) := ⟨heap_alloc2_new w _ _⟩
  go_enter Try.func22, Try.ntmps22
  go_wp2_with (first | (go_at_call 63; go_must (refine (ref_SameTexts _ tA tA' _ _ tc tc' s.texts (hV.out.below bl).ts (hV2.out.below bl).ts).mono ?_); go_must (rintro e w1 ⟨rfl, hc1⟩); go_must (replace hc1 := Aside0.mk hc1); go_must (have p1_0 : w1.cell? ⟨w.heap.size, 1, none⟩ = some (.slice oA s.objs.length oc) := blk_cell (cs := #[.slice tA s.texts.length tc, .slice oA s.objs.length oc, .slice bA s.fibers.length bc, .int .i64 s.cur, .int .i64 s.steps, .int .i64 s.spent, .int .i64 s.read]) (t := 40) bk 1); go_must (have p1_1 : w1.cell? ⟨w.heap.size + 1, 1, none⟩ = some (.slice oA' s.objs.length oc') := blk_cell (cs := #[.slice tA' s.texts.length tc', .slice oA' s.objs.length oc', .slice bA' s.fibers.length bc', .int .i64 s.cur, .int .i64 s.steps, .int .i64 s.spent, .int .i64 s.read]) (t := 40) bk 1); go_must (have p1_2 : w1.cell? ⟨w.heap.size, 2, none⟩ = some (.slice bA s.fibers.length bc) := blk_cell (cs := #[.slice tA s.texts.length tc, .slice oA s.objs.length oc, .slice bA s.fibers.length bc, .int .i64 s.cur, .int .i64 s.steps, .int .i64 s.spent, .int .i64 s.read]) (t := 40) bk 2); go_must (have p1_3 : w1.cell? ⟨w.heap.size + 1, 2, none⟩ = some (.slice bA' s.fibers.length bc') := blk_cell (cs := #[.slice tA' s.texts.length tc', .slice oA' s.objs.length oc', .slice bA' s.fibers.length bc', .int .i64 s.cur, .int .i64 s.steps, .int .i64 s.spent, .int .i64 s.read]) (t := 40) bk 2)) | (go_at_call 64; go_must (refine (ref_SameObjects _ oA oA' _ _ oc oc' ros ros' s.objs (hV.out.below bl).os (hV2.out.below bl).os hrol.out hrol'.out (hV.out.below bl).ro (hV2.out.below bl).ro).mono ?_); go_must (rintro e w2 ⟨rfl, hc2⟩); go_must (replace hc2 := Aside0.mk hc2); go_must (have p2_0 : w2.cell? ⟨w.heap.size, 2, none⟩ = some (.slice bA s.fibers.length bc) := blk_cell (cs := #[.slice tA s.texts.length tc, .slice oA s.objs.length oc, .slice bA s.fibers.length bc, .int .i64 s.cur, .int .i64 s.steps, .int .i64 s.spent, .int .i64 s.read]) (t := 40) bk 2); go_must (have p2_1 : w2.cell? ⟨w.heap.size + 1, 2, none⟩ = some (.slice bA' s.fibers.length bc') := blk_cell (cs := #[.slice tA' s.texts.length tc', .slice oA' s.objs.length oc', .slice bA' s.fibers.length bc', .int .i64 s.cur, .int .i64 s.steps, .int .i64 s.spent, .int .i64 s.read]) (t := 40) bk 2)) | (go_at_call 65; go_must (refine (ref_SameFibers _ bA bA' _ _ bc bc' (rbs.zip L) (rbs'.zip L') s.fibers (hV.out.below bl).zip.2.2 (hV2.out.below bl).zip.2.2 (hV.out.below bl).zip.1 (hV2.out.below bl).zip.1 (hV.out.below bl).zip.2.1 (hV2.out.below bl).zip.2.1).mono ?_); go_must (rintro e w3 ⟨rfl, hc3⟩); go_must (replace hc3 := Aside0.mk hc3)))
  go_ret
  exact ⟨rfl, cg⟩
end Go.Proofs.Ytdoghjmanogelaa.K
