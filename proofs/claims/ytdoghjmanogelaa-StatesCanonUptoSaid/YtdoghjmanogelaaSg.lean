import Derived.Test.YtdoghjmanogelaaSf
import Derived.IntWalk
import Derived.BigQuiet
import Derived.Deep.RegionHeld3
namespace Go.Proofs.Ytdoghjmanogelaa.K
open Go.RowKit Go.Proofs.YtdoghjmanogelaaW.PrintWords Go.Proofs.YtdoghjmanogelaaW.PrintLast Go.Proofs.YtdoghjmanogelaaW.PrintMore
set_option linter.unusedVariables false
set_option linter.unusedSimpArgs false
set_option maxRecDepth 100000

/-- The lists of values of a state: its objects', then its frames'. -/
def rowsB (l : List QB) : List (List QV) := l.flatMap (fun b => b.frames.map (fun f => f.slots))
def rowsS (s : QS) : List (List QV) := s.objs.map (fun o => o.items) ++ rowsB s.fibers
def offB (l : List QB) (i : Nat) : Nat := (rowsB (l.take i)).length
theorem offB_succ {l : List QB} {i : Nat} {b : QB} (h : l[i]? = some b) : offB l (i + 1) = offB l i + b.frames.length := by
  have hi := (List.getElem?_eq_some_iff.1 h).1
  unfold offB rowsB
  rw [List.take_succ_eq_append_getElem hi, List.flatMap_append, List.length_append]
  have : l[i] = b := by rw [List.getElem?_eq_getElem hi] at h; exact Option.some.inj h
  simp [this]
theorem rowsB_at {l : List QB} {i k : Nat} {b : QB} {f : QFr} (h : l[i]? = some b) (hf : b.frames[k]? = some f) : (rowsB l)[offB l i + k]? = some f.slots := by
  have hi := (List.getElem?_eq_some_iff.1 h).1
  have hl : l = l.take i ++ b :: l.drop (i + 1) := by
    have e : l[i] = b := by rw [List.getElem?_eq_getElem hi] at h; exact Option.some.inj h
    rw [← e, List.getElem_cons_drop]
    exact (List.take_append_drop i l).symm
  have hr : rowsB l = rowsB (l.take i) ++ (b.frames.map (fun f => f.slots) ++ rowsB (l.drop (i + 1))) := by
    conv => lhs; rw [hl]
    simp [rowsB]
  have hk := (List.getElem?_eq_some_iff.1 hf).1
  rw [hr, List.getElem?_append_right (by unfold offB; omega)]
  rw [show offB l i + k - (rowsB (l.take i)).length = k by unfold offB; omega, List.getElem?_append_left (by simpa using hk), List.getElem?_map, hf]
  rfl
theorem rowsS_objs {s : QS} {k : Nat} {x : QO} (h : s.objs[k]? = some x) : (rowsS s)[k]? = some x.items := by
  have hk := (List.getElem?_eq_some_iff.1 h).1
  rw [rowsS, List.getElem?_append_left (by simpa using hk), List.getElem?_map, h]
  rfl
theorem rowsS_frames {s : QS} {i k : Nat} {b : QB} {f : QFr} (h : s.fibers[i]? = some b) (hf : b.frames[k]? = some f) : (rowsS s)[s.objs.length + offB s.fibers i + k]? = some f.slots := by
  rw [rowsS, List.getElem?_append_right (by simp; omega)]
  rw [show s.objs.length + offB s.fibers i + k - (s.objs.map (fun o => o.items)).length = offB s.fibers i + k by simp; omega]
  exact rowsB_at h hf
/-- The full lists, marks and all. -/
def Rooms (w : World) (ms : List SV) (ls : List (List QV)) : Prop := ∀ (k : Nat) (m : SV) (l : List QV), ms[k]? = some m → ls[k]? = some l → Kd.C kQV w m.1 m.2.1 (l ++ kQVMarks 64)
theorem Rooms.below {w w' : World} {ms : List SV} {ls : List (List QV)} (h : Rooms w ms ls) (hb : Below w.heap.size w w') : Rooms w' ms ls := fun k m l h1 h2 => Kd.C_below (h k m l h1 h2) hb
theorem sv_at {w : World} {A : Option Addr} {n : Nat} {l : List SV} (h : Kd.C kSV w A n l) (i : Nat) (h1 : i < n) : ∃ ad x, A = some ad ∧ l[i]? = some x ∧ w.cell? (ad.add i) = some (.slice x.1 x.2.1 x.2.2) := C_one (enc := svl) (fun _ _ _ h => h) rfl h i h1
theorem law_kept (w : World) (tA oA bA tA' oA' bA' rA : Option Addr) (tc oc bc tc' oc' bc' rN rC : Nat) (s : QS) (ros ros' : List RO) (rbs rbs' : List RB) (L L' : List (List RF)) (ms : List SV) (h : SView w tA oA bA s ros rbs L) (h' : SView w tA' oA' bA' s ros' rbs' L') (hm : Kd.C kSV w rA rN ms) (hlm : ms.length = (rowsS s).length) (hM : Rooms w ms (rowsS s)) (hs : SSmall s) :
    Calls Try.prog 19 #[.agg #[.slice tA s.texts.length tc, .slice oA s.objs.length oc, .slice bA s.fibers.length bc, .int .i64 s.cur, .int .i64 s.steps, .int .i64 s.spent, .int .i64 s.read], .slice rA rN rC, .agg #[.slice tA' s.texts.length tc', .slice oA' s.objs.length oc', .slice bA' s.fibers.length bc', .int .i64 s.cur, .int .i64 s.steps, .int .i64 s.spent, .int .i64 s.read]] w fun e w' => e = .returned (.bool true) ∧ Chg (fun _ => False) w w' := by
  have hV := Aside0.mk h
  have hV2 := Aside0.mk h'
  have hm0 := hm.1
  have hmb := hm.2.1
  rw [hlm] at hm0
  subst hm0
  have hMA := Aside0.mk hm
  have hlA := Aside0.mk hlm
  have hMM := Aside0.mk hM
  have hS := Aside0.mk hs
  have hb1 := hs.o
  have hb2 := hs.b
  clear h h' hm hM hs hlm
  go_enter Try.func19, Try.ntmps19
  go_wp2_with (fail)
  generalize hW : World.alloc (World.alloc w _) _ = W0
  have B1 : Aside0 (W0.heap[w.heap.size]? = some (.cells #[.slice tA s.texts.length tc, .slice oA s.objs.length oc, .slice bA s.fibers.length bc, .int .i64 s.cur, .int .i64 s.steps, .int .i64 s.spent, .int .i64 s.read] 40)) := ⟨by rw [← hW]; exact ((Chg.refl (fun _ => False) (w.alloc _)).alloc _).blk (heap_alloc_new w _) (fun e => e)⟩
  have B2 : Aside0 (W0.heap[w.heap.size + 1]? = some (.cells #[.slice tA' s.texts.length tc', .slice oA' s.objs.length oc', .slice bA' s.fibers.length bc', .int .i64 s.cur, .int .i64 s.steps, .int .i64 s.spent, .int .i64 s.read] 40)) := ⟨by rw [← hW]; exact heap_alloc2_new w _ _⟩
  have hz0 : Aside0 (Chg (fun _ => False) w W0) := ⟨by rw [← hW]; exact cg⟩
  clear hW
  go_wp2_with (first | (go_at_call 22; go_must (refine (ref_SameState _ tA oA bA tA' oA' bA' tc oc bc tc' oc' bc' s ros ros' rbs rbs' L L' (hV.out.below bl) (hV2.out.below bl)).mono ?_); go_must (rintro e w1 ⟨rfl, hc1⟩); go_must (replace hc1 := Aside0.mk hc1); go_must (have p2_1 : w1.cell? ⟨w.heap.size + 1, 1, none⟩ = some (.slice oA' s.objs.length oc') := blk_cell (cs := #[.slice tA' s.texts.length tc', .slice oA' s.objs.length oc', .slice bA' s.fibers.length bc', .int .i64 s.cur, .int .i64 s.steps, .int .i64 s.spent, .int .i64 s.read]) (t := 40) bk 1)))
  go_loopw [7, 8] (fun n i wr => ∃ k : Nat, n = .int .i64 k ∧ i = .int .i64 k ∧ k ≤ s.objs.length ∧ Aside0 (Chg (fun _ => False) W0 wr)) (fun _ i _ => s.objs.length - (intOf i).toNat)
  case atStart => exact ⟨0, rfl, rfl, by omega, ⟨cg⟩⟩
  case round =>
    clear p2_1
    obtain ⟨k, rfl, rfl, hk, hCh⟩ := hrel
    have p2_1 : wr.cell? ⟨w.heap.size + 1, 1, none⟩ = some (.slice oA' s.objs.length oc') := blk_cell (cs := #[.slice tA' s.texts.length tc', .slice oA' s.objs.length oc', .slice bA' s.fibers.length bc', .int .i64 s.cur, .int .i64 s.steps, .int .i64 s.spent, .int .i64 s.read]) (t := 40) bk 1
    by_cases hlt : k < s.objs.length
    · obtain ⟨x, hx⟩ : ∃ x, s.objs[k]? = some x := ⟨_, List.getElem?_eq_getElem hlt⟩
      have hv := hV2.out.below (w' := wr) bl
      obtain ⟨od, r, e1, e2, x0, x1, x2, x3, x4, x5⟩ := atRO hv.os k hlt
      subst e1
      have hro := hv.ro k r x e2 hx
      have hrx := rowsS_objs hx
      have hkr := (List.getElem?_eq_some_iff.1 hrx).1
      obtain ⟨rd, m, e3, e4, m0⟩ := sv_at (l := ms) (w := wr) (n := (rowsS s).length) cC k hkr
      subst e3
      have hMk := Aside0.mk ((hMM.out.below (w' := wr) bl) k m x.items e4 hrx)
      have hMi := Aside0.mk hro.2.2.2.2.1
      have hbi := Aside0.mk (hS.out.oi x (List.mem_of_getElem? hx)).1
      have hk0 : (0 : Int) ≤ k := by omega
      have hk1 : (k : Int) < s.objs.length := by omega
      have hk2 : (k : Int) < (rowsS s).length := by omega
      clear e2 e4 hx hv hro hrx x0 x2 x3 x4 x5
      go_wp2
      go_region_held3 (fun w' => w'.cell? ⟨w.heap.size + 1, 1, none⟩ = some (.slice (some od) s.objs.length oc') ∧ w'.cell? (rd.add k) = some (.slice m.1 m.2.1 m.2.2) ∧ w'.cell? ⟨(od.add (k * 6)).block, (od.add (k * 6)).off + 1, none⟩ = some (.slice r.items.1 r.items.2.1 r.items.2.2)) (first | exact ⟨p2_1, m0, x1⟩ | go_keep | exact ⟨kc, kc, kc⟩) ((go_at_call 55; (refine (kit_KeptValues _ _ _ _ _ _ _ x.items (Kd.C_below hMk.out bl) (Kd.C_below hMi.out bl) hbi.out).mono ?_); (rintro e w3 ⟨rfl, hc3⟩); (replace hc3 := Aside0.mk hc3)))
      go_wp2
      go_roundw
      case measure => first | (simp [intOf]; done) | (simp [intOf]; omega)
      case rel => exact ⟨k + 1, by go_num, by go_num, by omega, ⟨cg⟩⟩
    · obtain rfl : k = s.objs.length := by omega
      have p2_2 : wr.cell? ⟨w.heap.size + 1, 2, none⟩ = some (.slice bA' s.fibers.length bc') := blk_cell (cs := #[.slice tA' s.texts.length tc', .slice oA' s.objs.length oc', .slice bA' s.fibers.length bc', .int .i64 s.cur, .int .i64 s.steps, .int .i64 s.spent, .int .i64 s.read]) (t := 40) bk 2
      clear hk hlt
      go_wp2
      clear p2_1 p2_2
      go_loopw [7, 9, 10] (fun n i _ wr => ∃ j : Nat, n = .int .i64 (s.objs.length + offB s.fibers j : Nat) ∧ i = .int .i64 j ∧ j ≤ s.fibers.length ∧ Aside0 (Chg (fun _ => False) W0 wr)) (fun _ i _ _ => s.fibers.length - (intOf i).toNat)
      case atStart => exact ⟨0, by simp [offB, rowsB], rfl, by omega, ⟨cg⟩⟩
      case round =>
        clear hCh
        obtain ⟨j, rfl, rfl, hj, hCh⟩ := hrel
        obtain ⟨wo, rfl⟩ : ∃ wo : World, wo = wr := ⟨_, rfl⟩
        have p2_2 : wo.cell? ⟨w.heap.size + 1, 2, none⟩ = some (.slice bA' s.fibers.length bc') := blk_cell (cs := #[.slice tA' s.texts.length tc', .slice oA' s.objs.length oc', .slice bA' s.fibers.length bc', .int .i64 s.cur, .int .i64 s.steps, .int .i64 s.spent, .int .i64 s.read]) (t := 40) bk 2
        by_cases hlj : j < s.fibers.length
        · obtain ⟨x, hx⟩ : ∃ x, s.fibers[j]? = some x := ⟨_, List.getElem?_eq_getElem hlj⟩
          have hxA := Aside0.mk hx
          have hv := (hV2.out.below (w' := wo) bl).zip
          obtain ⟨bd, q, e1, e2, z0⟩ := atRB hv.2.2 j hlj
          subst e1
          obtain ⟨z, hz, rfl⟩ := pair_at e2
          obtain ⟨z1, z2⟩ := z
          have hzx := hv.2.1 j (z1, z2) x hz hx
          obtain ⟨⟨fA, fN, fC⟩⟩ := z1
          have hfl : fN = x.frames.length := hzx.1.1.symm.trans hzx.2.1
          subst hfl
          have hzA := Aside0.mk hzx
          have hfb := Aside0.mk (hS.out.bf x (List.mem_of_getElem? hx)).2
          have hfm := (hS.out.bf x (List.mem_of_getElem? hx)).1
          have z0A := Aside0.mk z0
          have hj0 : (0 : Int) ≤ j := by omega
          have hj1 : (j : Int) < s.fibers.length := by omega
          have hof := Aside0.mk (offB_succ hx)
          clear e2 hx hv hz hzx
          go_wp2
          clear p2_2 z0
          go_loopw [7, 10] (fun n i wr => ∃ k : Nat, n = .int .i64 (s.objs.length + offB s.fibers j + k : Nat) ∧ i = .int .i64 k ∧ k ≤ x.frames.length ∧ Aside0 (Chg (fun _ => False) wo wr)) (fun _ i _ => x.frames.length - (intOf i).toNat)
          case atStart => exact ⟨0, rfl, rfl, by omega, ⟨cg⟩⟩
          case round =>
            obtain ⟨k, rfl, rfl, hk, hCi⟩ := hrel
            have hCw : Aside0 (Chg (fun _ => False) W0 wr) := ⟨cg⟩
            have z0 := cell_chg0 z0A.out (w' := wr) cg
            have p2_2 : wr.cell? ⟨w.heap.size + 1, 2, none⟩ = some (.slice (some bd) s.fibers.length bc') := blk_cell (cs := #[.slice tA' s.texts.length tc', .slice oA' s.objs.length oc', .slice (some bd) s.fibers.length bc', .int .i64 s.cur, .int .i64 s.steps, .int .i64 s.spent, .int .i64 s.read]) (t := 40) bk 2
            by_cases hlt : k < x.frames.length
            · obtain ⟨f, hf⟩ : ∃ f, x.frames[k]? = some f := ⟨_, List.getElem?_eq_getElem hlt⟩
              have hzb := hzA.out.below (w' := wr) bl
              obtain ⟨fd, r, e1, e2, x0, x1, x2⟩ := atRF hzb.1 k hlt
              simp only at e1
              subst e1
              have hrf := (hzb.2.2 k r f e2 hf).2.2
              have hrx := rowsS_frames hxA.out hf
              have hkr := (List.getElem?_eq_some_iff.1 hrx).1
              obtain ⟨n, hn⟩ : ∃ n, n = s.objs.length + offB s.fibers j + k := ⟨_, rfl⟩
              rw [← hn] at hkr hrx ⊢
              obtain ⟨rd, m, e3, e4, m0⟩ := sv_at (l := ms) (w := wr) (n := (rowsS s).length) cC n hkr
              subst e3
              have hMk := Aside0.mk ((hMM.out.below (w' := wr) bl) n m f.slots e4 hrx)
              have hMi := Aside0.mk hrf
              have hbi := Aside0.mk (hfb.out f (List.mem_of_getElem? hf))
              have hk0 : (0 : Int) ≤ k := by omega
              have hk1 : (k : Int) < x.frames.length := by omega
              have hn0 : (0 : Int) ≤ n := by omega
              have hn1 : (n : Int) < (rowsS s).length := by omega
              have hn2 : n ≤ 9223372036854775806 := by have := hlA.out; omega
              have hnA := Aside0.mk hn
              clear hn e2 e4 hf hzb hrf hrx x0 x1
              go_wp2
              go_region_held3 (fun w' => w'.cell? ⟨w.heap.size + 1, 2, none⟩ = some (.slice (some bd) s.fibers.length bc') ∧ w'.cell? (bd.add j) = some (.slice (some fd) x.frames.length fC) ∧ w'.cell? (rd.add n) = some (.slice m.1 m.2.1 m.2.2) ∧ w'.cell? ⟨(fd.add (k * 3)).block, (fd.add (k * 3)).off + 2, none⟩ = some (.slice r.slots.1 r.slots.2.1 r.slots.2.2)) (first | exact ⟨p2_2, z0, m0, x2⟩ | go_keep | exact ⟨kc, kc, kc, kc⟩) ((go_at_call 55; (refine (kit_KeptValues _ _ _ _ _ _ _ f.slots (Kd.C_below hMk.out bl) (Kd.C_below hMi.out bl) hbi.out).mono ?_); (rintro e w3 ⟨rfl, hc3⟩); (replace hc3 := Aside0.mk hc3)))
              go_wp2
              go_roundw
              case measure => first | (simp [intOf]; done) | (simp [intOf]; omega)
              case rel => exact ⟨k + 1, by rw [← Nat.add_assoc, ← hnA.out]; go_num, by go_num, by omega, ⟨cg⟩⟩
            · obtain rfl : k = x.frames.length := by omega
              clear hk hlt
              go_wp2
              go_roundw
              case measure => first | (simp [intOf]; done) | (simp [intOf]; omega)
              case rel => exact ⟨j + 1, by rw [hof.out, Nat.add_assoc], by go_num, by omega, ⟨cg⟩⟩
        · obtain rfl : j = s.fibers.length := by omega
          go_wp2
          go_ret
          exact ⟨rfl, cg⟩
end Go.Proofs.Ytdoghjmanogelaa.K
