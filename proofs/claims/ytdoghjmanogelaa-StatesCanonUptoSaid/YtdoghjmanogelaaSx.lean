import Derived.Test.YtdoghjmanogelaaSw
import Derived.Test.YtdoghjmanogelaaSf
import Derived.IntWalk
import Derived.BigQuiet
import Derived.Deep.RegionHeld3
namespace Go.Proofs.Ytdoghjmanogelaa.K
open Go.RowKit Go.Proofs.YtdoghjmanogelaaW.PrintWords Go.Proofs.YtdoghjmanogelaaW.PrintLast Go.Proofs.YtdoghjmanogelaaW.PrintMore
set_option linter.unusedVariables false
set_option linter.unusedSimpArgs false
set_option maxRecDepth 100000

set_option maxHeartbeats 4000000
theorem told_of {prog : Program} {f : Nat} {args : Array Value} {P Q : Prop} {w : World} (hPQ : P ↔ Q) (h : Calls prog f args w (Told Q w)) : Calls prog f args w (Told P w) := h.mono fun e w' ⟨b, he, hb, hc⟩ => ⟨b, he, hb.trans hPQ.symm, hc⟩
theorem same_Objects (w : World) (A B : Option Addr) (n m ca cb : Nat) (rs qs : List RO) (l l2 : List QO) (h1 : Kd.C kRO w A n rs) (h2 : Kd.C kRO w B m qs) (e1 : rs.length = l.length) (e2 : qs.length = l2.length) (r1 : ∀ (k : Nat) (r : RO) (x : QO), rs[k]? = some r → l[k]? = some x → RawO w r x) (r2 : ∀ (k : Nat) (r : RO) (x : QO), qs[k]? = some r → l2[k]? = some x → RawO w r x) :
    Calls Try.prog 64 #[.slice A n ca, .slice B m cb] w (Told (l = l2) w) := by
  have e3 := h1.1
  have e4 := h2.1
  have hb := h1.2.1
  have hb2 := h2.2.1
  rw [e1] at e3
  rw [e2] at e4
  subst e3 e4
  have hCA := Aside0.mk h1
  have hDA := Aside0.mk h2
  have hrA := Aside0.mk r1
  have hqA := Aside0.mk r2
  clear h1 h2 e1 e2 r1 r2
  by_cases hlen : l.length = l2.length
  · go_enter Try.func64, Try.ntmps64
    go_wp2
    go_loopw [5] (fun i wr => ∃ k : Nat, i = .int .i64 k ∧ k ≤ l.length ∧ Aside0 (l.take k = l2.take k) ∧ Aside0 (Chg (fun _ => False) w wr)) (fun i _ => l.length - (intOf i).toNat)
    case atStart => exact ⟨0, rfl, by omega, ⟨rfl⟩, ⟨Chg.refl _ _⟩⟩
    case round =>
      obtain ⟨k, rfl, hk, hE, hCh⟩ := hrel
      by_cases hlt : k < l.length
      · have hlt0 := hlt
        obtain ⟨ad, r, e1, e2, x0, x1, x2, x3, x4, x5⟩ := atRO (l := rs) (w := wr) cC k hlt
        obtain ⟨bd, q, e3, e4, y0, y1, y2, y3, y4, y5⟩ := atRO (l := qs) (w := wr) cC k (by omega)
        subst e1 e3
        have hk0 : (0 : Int) ≤ k := by omega
        have hk1 : (k : Int) < l.length := by omega
        have hk2 : (k : Int) < l2.length := by omega
        obtain ⟨x, hx⟩ : ∃ x, l[k]? = some x := ⟨_, List.getElem?_eq_getElem hlt⟩
        obtain ⟨y, hy⟩ : ∃ y, l2[k]? = some y := ⟨_, List.getElem?_eq_getElem (by omega)⟩
        have hr := Aside0.mk ((hrA.out k r x e2 hx).below (w' := wr) bl)
        have hq := Aside0.mk ((hqA.out k q y e4 hy).below (w' := wr) bl)
        have hxA := Aside0.mk hx
        have hyA := Aside0.mk hy
        have hlenA := Aside0.mk hlen
        clear e2 e4 hx hy hlen
        by_cases hxy : x = y
        · have hxy2 := Aside0.mk hxy
          replace hxy := Aside0.mk hxy
          go_wp2
          go_region_held3 (fun w' => w'.cell? (ad.add (k * 6)) = some (.int .i64 r.kind) ∧ w'.cell? ⟨(ad.add (k * 6)).block, (ad.add (k * 6)).off + 1, none⟩ = some (.slice r.items.1 r.items.2.1 r.items.2.2) ∧ w'.cell? ⟨(ad.add (k * 6)).block, (ad.add (k * 6)).off + 2, none⟩ = some (.slice r.keys.1 r.keys.2.1 r.keys.2.2) ∧ w'.cell? ⟨(ad.add (k * 6)).block, (ad.add (k * 6)).off + 3, none⟩ = some (.int .i64 r.fn) ∧ w'.cell? ⟨(ad.add (k * 6)).block, (ad.add (k * 6)).off + 4, none⟩ = some (.int .i64 r.cap) ∧ w'.cell? ⟨(ad.add (k * 6)).block, (ad.add (k * 6)).off + 5, none⟩ = some (.bool r.shut) ∧ w'.cell? (bd.add (k * 6)) = some (.int .i64 q.kind) ∧ w'.cell? ⟨(bd.add (k * 6)).block, (bd.add (k * 6)).off + 1, none⟩ = some (.slice q.items.1 q.items.2.1 q.items.2.2) ∧ w'.cell? ⟨(bd.add (k * 6)).block, (bd.add (k * 6)).off + 2, none⟩ = some (.slice q.keys.1 q.keys.2.1 q.keys.2.2) ∧ w'.cell? ⟨(bd.add (k * 6)).block, (bd.add (k * 6)).off + 3, none⟩ = some (.int .i64 q.fn) ∧ w'.cell? ⟨(bd.add (k * 6)).block, (bd.add (k * 6)).off + 4, none⟩ = some (.int .i64 q.cap) ∧ w'.cell? ⟨(bd.add (k * 6)).block, (bd.add (k * 6)).off + 5, none⟩ = some (.bool q.shut)) (first | exact ⟨x0, x1, x2, x3, x4, x5, y0, y1, y2, y3, y4, y5⟩ | go_keep | exact ⟨kc, kc, kc, kc, kc, kc, kc, kc, kc, kc, kc, kc⟩) ((go_at_call 88; (refine (told_yes (same_Object _ r q x y (hr.out.below bl) (hq.out.below bl)) hxy.out).mono ?_); (rintro e w3 ⟨rfl, hc3⟩); (replace hc3 := Aside0.mk hc3)))
          go_wp2
          go_roundw
          case measure => first | (simp [intOf]; done) | (simp [intOf]; omega)
          case rel => exact ⟨k + 1, by go_num, by omega, ⟨take_eq_succ hE.out hxA.out (by rw [hxy2.out]; exact hyA.out)⟩, ⟨cg⟩⟩
        · have hno : Aside0 (l ≠ l2) := ⟨fun h => by rw [h, hyA.out] at hxA; exact hxy (Option.some.inj hxA.out).symm⟩
          replace hxy := Aside0.mk hxy
          go_wp2
          go_region_held3 (fun w' => w'.cell? (ad.add (k * 6)) = some (.int .i64 r.kind) ∧ w'.cell? ⟨(ad.add (k * 6)).block, (ad.add (k * 6)).off + 1, none⟩ = some (.slice r.items.1 r.items.2.1 r.items.2.2) ∧ w'.cell? ⟨(ad.add (k * 6)).block, (ad.add (k * 6)).off + 2, none⟩ = some (.slice r.keys.1 r.keys.2.1 r.keys.2.2) ∧ w'.cell? ⟨(ad.add (k * 6)).block, (ad.add (k * 6)).off + 3, none⟩ = some (.int .i64 r.fn) ∧ w'.cell? ⟨(ad.add (k * 6)).block, (ad.add (k * 6)).off + 4, none⟩ = some (.int .i64 r.cap) ∧ w'.cell? ⟨(ad.add (k * 6)).block, (ad.add (k * 6)).off + 5, none⟩ = some (.bool r.shut) ∧ w'.cell? (bd.add (k * 6)) = some (.int .i64 q.kind) ∧ w'.cell? ⟨(bd.add (k * 6)).block, (bd.add (k * 6)).off + 1, none⟩ = some (.slice q.items.1 q.items.2.1 q.items.2.2) ∧ w'.cell? ⟨(bd.add (k * 6)).block, (bd.add (k * 6)).off + 2, none⟩ = some (.slice q.keys.1 q.keys.2.1 q.keys.2.2) ∧ w'.cell? ⟨(bd.add (k * 6)).block, (bd.add (k * 6)).off + 3, none⟩ = some (.int .i64 q.fn) ∧ w'.cell? ⟨(bd.add (k * 6)).block, (bd.add (k * 6)).off + 4, none⟩ = some (.int .i64 q.cap) ∧ w'.cell? ⟨(bd.add (k * 6)).block, (bd.add (k * 6)).off + 5, none⟩ = some (.bool q.shut)) (first | exact ⟨x0, x1, x2, x3, x4, x5, y0, y1, y2, y3, y4, y5⟩ | go_keep | exact ⟨kc, kc, kc, kc, kc, kc, kc, kc, kc, kc, kc, kc⟩) ((go_at_call 88; (refine (told_no (same_Object _ r q x y (hr.out.below bl) (hq.out.below bl)) hxy.out).mono ?_); (rintro e w3 ⟨rfl, hc3⟩); (replace hc3 := Aside0.mk hc3)))
          go_wp2
          go_ret
          exact ⟨false, by simp, ⟨fun h => (by cases h), fun h => absurd h hno.out⟩, cg⟩
      · obtain rfl : k = l.length := by omega
        go_wp2
        go_ret
        have h := hE.out
        rw [List.take_length, hlen, List.take_length] at h
        exact ⟨true, rfl, by simp [h], cg⟩
  · have hne : ((l.length : Int) != l2.length) = true := by rw [bne_iff_ne]; omega
    have hlA := Aside0.mk hlen
    clear hlen
    go_enter Try.func64, Try.ntmps64
    go_wp2
    go_ret
    exact ⟨false, rfl, ⟨fun h => (by cases h), fun h => absurd (congrArg List.length h) hlA.out⟩, cg⟩
theorem same_Frames (w : World) (A B : Option Addr) (n m ca cb : Nat) (rs qs : List RF) (l l2 : List QFr) (h1 : Kd.C kRF w A n rs) (h2 : Kd.C kRF w B m qs) (e1 : rs.length = l.length) (e2 : qs.length = l2.length) (r1 : ∀ (k : Nat) (r : RF) (x : QFr), rs[k]? = some r → l[k]? = some x → RawF w r x) (r2 : ∀ (k : Nat) (r : RF) (x : QFr), qs[k]? = some r → l2[k]? = some x → RawF w r x) :
    Calls Try.prog 89 #[.slice A n ca, .slice B m cb] w (Told (l = l2) w) := by
  have e3 := h1.1
  have e4 := h2.1
  have hb := h1.2.1
  have hb2 := h2.2.1
  rw [e1] at e3
  rw [e2] at e4
  subst e3 e4
  have hCA := Aside0.mk h1
  have hDA := Aside0.mk h2
  have hrA := Aside0.mk r1
  have hqA := Aside0.mk r2
  clear h1 h2 e1 e2 r1 r2
  by_cases hlen : l.length = l2.length
  · go_enter Try.func89, Try.ntmps89
    go_wp2
    go_loopw [5] (fun i wr => ∃ k : Nat, i = .int .i64 k ∧ k ≤ l.length ∧ Aside0 (l.take k = l2.take k) ∧ Aside0 (Chg (fun _ => False) w wr)) (fun i _ => l.length - (intOf i).toNat)
    case atStart => exact ⟨0, rfl, by omega, ⟨rfl⟩, ⟨Chg.refl _ _⟩⟩
    case round =>
      obtain ⟨k, rfl, hk, hE, hCh⟩ := hrel
      by_cases hlt : k < l.length
      · have hlt0 := hlt
        obtain ⟨ad, r, e1, e2, x0, x1, x2⟩ := atRF (l := rs) (w := wr) cC k hlt
        obtain ⟨bd, q, e3, e4, y0, y1, y2⟩ := atRF (l := qs) (w := wr) cC k (by omega)
        subst e1 e3
        have hk0 : (0 : Int) ≤ k := by omega
        have hk1 : (k : Int) < l.length := by omega
        have hk2 : (k : Int) < l2.length := by omega
        obtain ⟨x, hx⟩ : ∃ x, l[k]? = some x := ⟨_, List.getElem?_eq_getElem hlt⟩
        obtain ⟨y, hy⟩ : ∃ y, l2[k]? = some y := ⟨_, List.getElem?_eq_getElem (by omega)⟩
        have hr := Aside0.mk ((hrA.out k r x e2 hx).below (w' := wr) bl)
        have hq := Aside0.mk ((hqA.out k q y e4 hy).below (w' := wr) bl)
        have hxA := Aside0.mk hx
        have hyA := Aside0.mk hy
        have hlenA := Aside0.mk hlen
        clear e2 e4 hx hy hlen
        by_cases hxy : x = y
        · have hxy2 := Aside0.mk hxy
          replace hxy := Aside0.mk hxy
          go_wp2
          go_region_held3 (fun w' => w'.cell? (ad.add (k * 3)) = some (.int .i64 r.fn) ∧ w'.cell? ⟨(ad.add (k * 3)).block, (ad.add (k * 3)).off + 1, none⟩ = some (.int .i64 r.pc) ∧ w'.cell? ⟨(ad.add (k * 3)).block, (ad.add (k * 3)).off + 2, none⟩ = some (.slice r.slots.1 r.slots.2.1 r.slots.2.2) ∧ w'.cell? (bd.add (k * 3)) = some (.int .i64 q.fn) ∧ w'.cell? ⟨(bd.add (k * 3)).block, (bd.add (k * 3)).off + 1, none⟩ = some (.int .i64 q.pc) ∧ w'.cell? ⟨(bd.add (k * 3)).block, (bd.add (k * 3)).off + 2, none⟩ = some (.slice q.slots.1 q.slots.2.1 q.slots.2.2)) (first | exact ⟨x0, x1, x2, y0, y1, y2⟩ | go_keep | exact ⟨kc, kc, kc, kc, kc, kc⟩) ((go_at_call 102; (refine (told_yes (same_Frame _ r q x y (hr.out.below bl) (hq.out.below bl)) hxy.out).mono ?_); (rintro e w3 ⟨rfl, hc3⟩); (replace hc3 := Aside0.mk hc3)))
          go_wp2
          go_roundw
          case measure => first | (simp [intOf]; done) | (simp [intOf]; omega)
          case rel => exact ⟨k + 1, by go_num, by omega, ⟨take_eq_succ hE.out hxA.out (by rw [hxy2.out]; exact hyA.out)⟩, ⟨cg⟩⟩
        · have hno : Aside0 (l ≠ l2) := ⟨fun h => by rw [h, hyA.out] at hxA; exact hxy (Option.some.inj hxA.out).symm⟩
          replace hxy := Aside0.mk hxy
          go_wp2
          go_region_held3 (fun w' => w'.cell? (ad.add (k * 3)) = some (.int .i64 r.fn) ∧ w'.cell? ⟨(ad.add (k * 3)).block, (ad.add (k * 3)).off + 1, none⟩ = some (.int .i64 r.pc) ∧ w'.cell? ⟨(ad.add (k * 3)).block, (ad.add (k * 3)).off + 2, none⟩ = some (.slice r.slots.1 r.slots.2.1 r.slots.2.2) ∧ w'.cell? (bd.add (k * 3)) = some (.int .i64 q.fn) ∧ w'.cell? ⟨(bd.add (k * 3)).block, (bd.add (k * 3)).off + 1, none⟩ = some (.int .i64 q.pc) ∧ w'.cell? ⟨(bd.add (k * 3)).block, (bd.add (k * 3)).off + 2, none⟩ = some (.slice q.slots.1 q.slots.2.1 q.slots.2.2)) (first | exact ⟨x0, x1, x2, y0, y1, y2⟩ | go_keep | exact ⟨kc, kc, kc, kc, kc, kc⟩) ((go_at_call 102; (refine (told_no (same_Frame _ r q x y (hr.out.below bl) (hq.out.below bl)) hxy.out).mono ?_); (rintro e w3 ⟨rfl, hc3⟩); (replace hc3 := Aside0.mk hc3)))
          go_wp2
          go_ret
          exact ⟨false, by simp, ⟨fun h => (by cases h), fun h => absurd h hno.out⟩, cg⟩
      · obtain rfl : k = l.length := by omega
        go_wp2
        go_ret
        have h := hE.out
        rw [List.take_length, hlen, List.take_length] at h
        exact ⟨true, rfl, by simp [h], cg⟩
  · have hne : ((l.length : Int) != l2.length) = true := by rw [bne_iff_ne]; omega
    have hlA := Aside0.mk hlen
    clear hlen
    go_enter Try.func89, Try.ntmps89
    go_wp2
    go_ret
    exact ⟨false, rfl, ⟨fun h => (by cases h), fun h => absurd (congrArg List.length h) hlA.out⟩, cg⟩
theorem same_Fibers (w : World) (A B : Option Addr) (n m ca cb : Nat) (rs qs : List (RB × List RF)) (l l2 : List QB) (h1 : Kd.C kRB w A n (rs.map (·.1))) (h2 : Kd.C kRB w B m (qs.map (·.1))) (e1 : rs.length = l.length) (e2 : qs.length = l2.length) (r1 : ∀ (k : Nat) (z : RB × List RF) (x : QB), rs[k]? = some z → l[k]? = some x → RawB w z.1 z.2 x) (r2 : ∀ (k : Nat) (z : RB × List RF) (x : QB), qs[k]? = some z → l2[k]? = some x → RawB w z.1 z.2 x) :
    Calls Try.prog 65 #[.slice A n ca, .slice B m cb] w (Told (l = l2) w) := by
  have e3 := h1.1
  have e4 := h2.1
  have hb := h1.2.1
  have hb2 := h2.2.1
  rw [List.length_map, e1] at e3
  rw [List.length_map, e2] at e4
  subst e3 e4
  have hCA := Aside0.mk h1
  have hDA := Aside0.mk h2
  have hrA := Aside0.mk r1
  have hqA := Aside0.mk r2
  clear h1 h2 e1 e2 r1 r2
  by_cases hlen : l.length = l2.length
  · go_enter Try.func65, Try.ntmps65
    go_wp2
    go_loopw [5] (fun i wr => ∃ k : Nat, i = .int .i64 k ∧ k ≤ l.length ∧ Aside0 (l.take k = l2.take k) ∧ Aside0 (Chg (fun _ => False) w wr)) (fun i _ => l.length - (intOf i).toNat)
    case atStart => exact ⟨0, rfl, by omega, ⟨rfl⟩, ⟨Chg.refl _ _⟩⟩
    case round =>
      obtain ⟨k, rfl, hk, hE, hCh⟩ := hrel
      by_cases hlt : k < l.length
      · have hlt0 := hlt
        obtain ⟨ad, r, e1, e2, x0⟩ := atRB (l := rs.map (·.1)) (w := wr) cC k hlt
        obtain ⟨bd, q, e3, e4, y0⟩ := atRB (l := qs.map (·.1)) (w := wr) cC k (by omega)
        subst e1 e3
        have hk0 : (0 : Int) ≤ k := by omega
        have hk1 : (k : Int) < l.length := by omega
        have hk2 : (k : Int) < l2.length := by omega
        obtain ⟨x, hx⟩ : ∃ x, l[k]? = some x := ⟨_, List.getElem?_eq_getElem hlt⟩
        obtain ⟨y, hy⟩ : ∃ y, l2[k]? = some y := ⟨_, List.getElem?_eq_getElem (by omega)⟩
        obtain ⟨z, hz, rfl⟩ := pair_at e2
        obtain ⟨u, hu, rfl⟩ := pair_at e4
        have hr := Aside0.mk ((hrA.out k z x hz hx).below (w' := wr) bl)
        have hq := Aside0.mk ((hqA.out k u y hu hy).below (w' := wr) bl)
        have hfr : x = y ↔ x.frames = y.frames := ⟨fun h => (by rw [h]), fun h => (by cases x; cases y; simp only at h; rw [h])⟩
        replace hfr := Aside0.mk hfr
        clear hz hu
        have hxA := Aside0.mk hx
        have hyA := Aside0.mk hy
        have hlenA := Aside0.mk hlen
        clear e2 e4 hx hy hlen
        by_cases hxy : x = y
        · have hxy2 := Aside0.mk hxy
          replace hxy := Aside0.mk hxy
          go_wp2
          go_region_held3 (fun w' => w'.cell? (ad.add k) = some (.slice z.1.frames.1 z.1.frames.2.1 z.1.frames.2.2) ∧ w'.cell? (bd.add k) = some (.slice u.1.frames.1 u.1.frames.2.1 u.1.frames.2.2)) (first | exact ⟨x0, y0⟩ | go_keep | exact ⟨kc, kc⟩) ((go_at_call 89; (refine (told_yes (told_of hfr.out (same_Frames _ _ _ _ _ _ _ z.2 u.2 x.frames y.frames (hr.out.below bl).1 (hq.out.below bl).1 hr.out.2.1 hq.out.2.1 (hr.out.below bl).2.2 (hq.out.below bl).2.2)) hxy.out).mono ?_); (rintro e w3 ⟨rfl, hc3⟩); (replace hc3 := Aside0.mk hc3)))
          go_wp2
          go_roundw
          case measure => first | (simp [intOf]; done) | (simp [intOf]; omega)
          case rel => exact ⟨k + 1, by go_num, by omega, ⟨take_eq_succ hE.out hxA.out (by rw [hxy2.out]; exact hyA.out)⟩, ⟨cg⟩⟩
        · have hno : Aside0 (l ≠ l2) := ⟨fun h => by rw [h, hyA.out] at hxA; exact hxy (Option.some.inj hxA.out).symm⟩
          replace hxy := Aside0.mk hxy
          go_wp2
          go_region_held3 (fun w' => w'.cell? (ad.add k) = some (.slice z.1.frames.1 z.1.frames.2.1 z.1.frames.2.2) ∧ w'.cell? (bd.add k) = some (.slice u.1.frames.1 u.1.frames.2.1 u.1.frames.2.2)) (first | exact ⟨x0, y0⟩ | go_keep | exact ⟨kc, kc⟩) ((go_at_call 89; (refine (told_no (told_of hfr.out (same_Frames _ _ _ _ _ _ _ z.2 u.2 x.frames y.frames (hr.out.below bl).1 (hq.out.below bl).1 hr.out.2.1 hq.out.2.1 (hr.out.below bl).2.2 (hq.out.below bl).2.2)) hxy.out).mono ?_); (rintro e w3 ⟨rfl, hc3⟩); (replace hc3 := Aside0.mk hc3)))
          go_wp2
          go_ret
          exact ⟨false, by simp, ⟨fun h => (by cases h), fun h => absurd h hno.out⟩, cg⟩
      · obtain rfl : k = l.length := by omega
        go_wp2
        go_ret
        have h := hE.out
        rw [List.take_length, hlen, List.take_length] at h
        exact ⟨true, rfl, by simp [h], cg⟩
  · have hne : ((l.length : Int) != l2.length) = true := by rw [bne_iff_ne]; omega
    have hlA := Aside0.mk hlen
    clear hlen
    go_enter Try.func65, Try.ntmps65
    go_wp2
    go_ret
    exact ⟨false, rfl, ⟨fun h => (by cases h), fun h => absurd (congrArg List.length h) hlA.out⟩, cg⟩
end Go.Proofs.Ytdoghjmanogelaa.K
