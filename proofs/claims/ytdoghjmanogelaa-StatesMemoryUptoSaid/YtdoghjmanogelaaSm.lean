import Derived.Test.YtdoghjmanogelaaSh
import Derived.IntWalk
import Derived.BigQuiet
import Derived.Deep.RegionHeld3
namespace Go.Proofs.Ytdoghjmanogelaa.K
open Go.RowKit Go.Proofs.YtdoghjmanogelaaW.PrintWords Go.Proofs.YtdoghjmanogelaaW.PrintLast Go.Proofs.YtdoghjmanogelaaW.PrintMore
set_option linter.unusedVariables false
set_option linter.unusedSimpArgs false
set_option maxRecDepth 100000
def namesQ (ob : List QO) (kind n : Int) : Bool := decide (6 ≤ kind) && decide (kind ≤ 9) && decide (0 ≤ n) && match ob[n.toNat]? with
  | none => false
  | some x => x.kind == kind
set_option maxHeartbeats 4000000
theorem look_names (w : World) (cA fA hA mA tA oA bA : Option Addr) (nc cc fc hn hc mn mc tc cb bc : Nat) (p : QP) (s : QS) (ob : List QO) (ros : List RO) (kind n : Int) (h : Kd.C kRO w oA ob.length ros) (e1 : ros.length = ob.length) (hro : ∀ (k : Nat) (r : RO) (x : QO), ros[k]? = some r → ob[k]? = some x → RawO w r x) (hnn : n ≤ 9223372036854775807) :
    Calls Try.prog 60 #[.agg #[.slice cA nc cc, .slice fA p.funcs.length fc, .slice hA hn hc, .slice mA mn mc, .slice tA s.texts.length tc, .slice oA ob.length cb, .slice bA s.fibers.length bc, .int .i64 s.cur, .int .i64 s.steps, .int .i64 s.spent, .int .i64 s.read], .agg #[.int .i64 kind, .int .i64 n]] w fun e w' => e = .returned (.bool (namesQ ob kind n)) ∧ Chg (fun _ => False) w w' := by
  have hAA := Aside0.mk h
  have hb := h.2.1
  have hRA := Aside0.mk hro
  clear h hro
  by_cases h1 : 6 ≤ kind
  · have d1 : decide (6 ≤ kind) = true := by simpa using h1
    have d1' : decide (kind < 6) = false := by simpa using h1
    by_cases h2 : kind ≤ 9
    · have d2 : decide (kind ≤ 9) = true := by simpa using h2
      have d2' : decide (9 < kind) = false := by simpa using h2
      by_cases h3 : 0 ≤ n
      · have d3 : decide (0 ≤ n) = true := by simpa using h3
        have d3' : decide (n < 0) = false := by simpa using h3
        obtain ⟨m, rfl⟩ : ∃ m : Nat, n = m := ⟨n.toNat, by omega⟩
        by_cases h4 : m < ob.length
        · have d4 : decide ((m : Int) < ob.length) = true := by simpa using h4
          have d4' : decide ((ob.length : Int) ≤ m) = false := by simpa using h4
          obtain ⟨x, hx⟩ : ∃ x, ob[m]? = some x := ⟨_, List.getElem?_eq_getElem h4⟩
          obtain ⟨ad, r, e1, e2, x0, _⟩ := atRO cC m h4
          subst e1
          have hk := (hRA.out m r x e2 hx).1
          have h5 : (m : Int) < ob.length := by omega
          rw [hk] at x0
          clear hk e2
          by_cases h6 : x.kind = kind
          · have hxA := Aside0.mk hx
            clear hx
            subst h6
            have hE : Aside0 (namesQ ob x.kind (m : Int) = true) := ⟨by unfold namesQ; rw [d1, d2, d3, Int.toNat_natCast, hxA.out]; simp⟩
            go_enter Try.func60, Try.ntmps60
            go_upto_region 1 with (fail)
            (try simp only [Act.put, List.setIfInBounds_toArray, List.set_cons_zero, List.set_cons_succ])
            generalize hW : World.alloc (World.alloc w _) _ = W0
            have B1 : Aside0 (W0.heap[w.heap.size]? = some (.cells #[.slice cA nc cc, .slice fA p.funcs.length fc, .slice hA hn hc, .slice mA mn mc, .slice tA s.texts.length tc, .slice (some ad) ob.length cb, .slice bA s.fibers.length bc, .int .i64 s.cur, .int .i64 s.steps, .int .i64 s.spent, .int .i64 s.read] 101)) := ⟨by rw [← hW]; exact ((Chg.refl (fun _ => False) (w.alloc _)).alloc _).blk (heap_alloc_new w _) (fun e => e)⟩
            have B2 : Aside0 (W0.heap[w.heap.size + 1]? = some (.cells #[.int .i64 x.kind, .int .i64 (m : Int)] 56)) := ⟨by rw [← hW]; exact heap_alloc2_new w _ _⟩
            have hz0 : Aside0 (Chg (fun _ => False) w W0) := ⟨by rw [← hW]; exact cg⟩
            clear hW
            have p5 : W0.cell? ⟨w.heap.size, 5, none⟩ = some (.slice (some ad) ob.length cb) := blk_cell B1.out 5
            have v0 : W0.cell? ⟨w.heap.size + 1, 0, none⟩ = some (.int .i64 x.kind) := blk_cell B2.out 0
            have v1 : W0.cell? ⟨w.heap.size + 1, 1, none⟩ = some (.int .i64 (m : Int)) := blk_cell B2.out 1
            have x0a := cell_chg0 x0 (w' := W0) cg
            clear x0
            go_quiet (fail)
            go_wp2
            go_ret
            exact ⟨by first | (rw [hE.out]; done) | (rw [hE.out]; simp), cg⟩
          · have h7 : (x.kind == kind) = false := by simpa using h6
            have hxA := Aside0.mk hx
            clear hx
            have hE : Aside0 (namesQ ob kind (m : Int) = false) := ⟨by unfold namesQ; rw [Int.toNat_natCast, hxA.out]; simp [h6]⟩
            go_enter Try.func60, Try.ntmps60
            go_upto_region 1 with (fail)
            (try simp only [Act.put, List.setIfInBounds_toArray, List.set_cons_zero, List.set_cons_succ])
            generalize hW : World.alloc (World.alloc w _) _ = W0
            have B1 : Aside0 (W0.heap[w.heap.size]? = some (.cells #[.slice cA nc cc, .slice fA p.funcs.length fc, .slice hA hn hc, .slice mA mn mc, .slice tA s.texts.length tc, .slice (some ad) ob.length cb, .slice bA s.fibers.length bc, .int .i64 s.cur, .int .i64 s.steps, .int .i64 s.spent, .int .i64 s.read] 101)) := ⟨by rw [← hW]; exact ((Chg.refl (fun _ => False) (w.alloc _)).alloc _).blk (heap_alloc_new w _) (fun e => e)⟩
            have B2 : Aside0 (W0.heap[w.heap.size + 1]? = some (.cells #[.int .i64 kind, .int .i64 (m : Int)] 56)) := ⟨by rw [← hW]; exact heap_alloc2_new w _ _⟩
            have hz0 : Aside0 (Chg (fun _ => False) w W0) := ⟨by rw [← hW]; exact cg⟩
            clear hW
            have p5 : W0.cell? ⟨w.heap.size, 5, none⟩ = some (.slice (some ad) ob.length cb) := blk_cell B1.out 5
            have v0 : W0.cell? ⟨w.heap.size + 1, 0, none⟩ = some (.int .i64 kind) := blk_cell B2.out 0
            have v1 : W0.cell? ⟨w.heap.size + 1, 1, none⟩ = some (.int .i64 (m : Int)) := blk_cell B2.out 1
            have x0a := cell_chg0 x0 (w' := W0) cg
            clear x0
            go_quiet (fail)
            go_wp2
            go_ret
            exact ⟨by first | (rw [hE.out]; done) | (rw [hE.out]; simp), cg⟩
        · have d4 : decide ((m : Int) < ob.length) = false := by simpa using h4
          have d4' : decide ((ob.length : Int) ≤ m) = true := by simpa using h4
          have h5 : ¬ (m : Int) < ob.length := by omega
          have hE : Aside0 (namesQ ob kind (m : Int) = false) := ⟨by unfold namesQ; rw [Int.toNat_natCast, List.getElem?_eq_none_iff.2 (by omega)]; simp⟩
          go_enter Try.func60, Try.ntmps60
          go_wp2
          go_quiet (fail)
          go_wp2
          go_ret
          exact ⟨by first | (rw [hE.out]; done) | (rw [hE.out]; simp), cg⟩
      · have d3 : decide (0 ≤ n) = false := by simpa using h3
        have d3' : decide (n < 0) = true := by simpa using h3
        have hE : Aside0 (namesQ ob kind n = false) := ⟨by unfold namesQ; rw [d3]; simp⟩
        go_enter Try.func60, Try.ntmps60
        go_wp2
        go_quiet (fail)
        go_wp2
        go_ret
        exact ⟨by first | (rw [hE.out]; done) | (rw [hE.out]; simp), cg⟩
    · have d2 : decide (kind ≤ 9) = false := by simpa using h2
      have d2' : decide (9 < kind) = true := by simpa using h2
      have hE : Aside0 (namesQ ob kind n = false) := ⟨by unfold namesQ; rw [d2]; simp⟩
      go_enter Try.func60, Try.ntmps60
      go_wp2
      go_quiet (fail)
      go_wp2
      go_ret
      exact ⟨by first | (rw [hE.out]; done) | (rw [hE.out]; simp), cg⟩
  · have d1 : decide (6 ≤ kind) = false := by simpa using h1
    have d1' : decide (kind < 6) = true := by simpa using h1
    have hE : Aside0 (namesQ ob kind n = false) := ⟨by unfold namesQ; rw [d1]; simp⟩
    go_enter Try.func60, Try.ntmps60
    go_wp2
    go_quiet (fail)
    go_wp2
    go_ret
    exact ⟨by first | (rw [hE.out]; done) | (rw [hE.out]; simp), cg⟩
theorem ref_NamesObject (w : World) (oA : Option Addr) (cb : Nat) (ob : List QO) (ros : List RO) (kind n : Int) (h : Kd.C kRO w oA ob.length ros) (e1 : ros.length = ob.length) (hro : ∀ (k : Nat) (r : RO) (x : QO), ros[k]? = some r → ob[k]? = some x → RawO w r x) (hnn : n ≤ 9223372036854775807) :
    Calls Try.prog 54 #[.slice oA ob.length cb, .agg #[.int .i64 kind, .int .i64 n]] w fun e w' => e = .returned (.bool (namesQ ob kind n)) ∧ Chg (fun _ => False) w w' := by
  have hAA := Aside0.mk h
  have hb := h.2.1
  have hRA := Aside0.mk hro
  clear h hro
  by_cases h1 : 6 ≤ kind
  · have d1 : decide (6 ≤ kind) = true := by simpa using h1
    have d1' : decide (kind < 6) = false := by simpa using h1
    by_cases h2 : kind ≤ 9
    · have d2 : decide (kind ≤ 9) = true := by simpa using h2
      have d2' : decide (9 < kind) = false := by simpa using h2
      by_cases h3 : 0 ≤ n
      · have d3 : decide (0 ≤ n) = true := by simpa using h3
        have d3' : decide (n < 0) = false := by simpa using h3
        obtain ⟨m, rfl⟩ : ∃ m : Nat, n = m := ⟨n.toNat, by omega⟩
        by_cases h4 : m < ob.length
        · have d4 : decide ((m : Int) < ob.length) = true := by simpa using h4
          have d4' : decide ((ob.length : Int) ≤ m) = false := by simpa using h4
          obtain ⟨x, hx⟩ : ∃ x, ob[m]? = some x := ⟨_, List.getElem?_eq_getElem h4⟩
          obtain ⟨ad, r, e1, e2, x0, _⟩ := atRO cC m h4
          subst e1
          have hk := (hRA.out m r x e2 hx).1
          have h5 : (m : Int) < ob.length := by omega
          rw [hk] at x0
          clear hk e2
          by_cases h6 : x.kind = kind
          · have hxA := Aside0.mk hx
            clear hx
            subst h6
            have hE : Aside0 (namesQ ob x.kind (m : Int) = true) := ⟨by unfold namesQ; rw [d1, d2, d3, Int.toNat_natCast, hxA.out]; simp⟩
            go_enter Try.func54, Try.ntmps54
            go_upto_region 1 with (fail)
            (try simp only [Act.put, List.setIfInBounds_toArray, List.set_cons_zero, List.set_cons_succ])
            generalize hW : World.alloc w _ = W0
            have B1 : Aside0 (W0.heap[w.heap.size]? = some (.cells #[.int .i64 x.kind, .int .i64 (m : Int)] 56)) := ⟨by rw [← hW]; exact heap_alloc_new w _⟩
            have hz0 : Aside0 (Chg (fun _ => False) w W0) := ⟨by rw [← hW]; exact cg⟩
            clear hW
            have v0 : W0.cell? ⟨w.heap.size, 0, none⟩ = some (.int .i64 x.kind) := blk_cell B1.out 0
            have v1 : W0.cell? ⟨w.heap.size, 1, none⟩ = some (.int .i64 (m : Int)) := blk_cell B1.out 1
            have x0a := cell_chg0 x0 (w' := W0) cg
            clear x0
            go_wp2
            go_quiet (fail)
            go_wp2
            go_ret
            exact ⟨by first | (rw [hE.out]; done) | (rw [hE.out]; simp), cg⟩
          · have h7 : (x.kind == kind) = false := by simpa using h6
            have hxA := Aside0.mk hx
            clear hx
            have hE : Aside0 (namesQ ob kind (m : Int) = false) := ⟨by unfold namesQ; rw [Int.toNat_natCast, hxA.out]; simp [h6]⟩
            go_enter Try.func54, Try.ntmps54
            go_upto_region 1 with (fail)
            (try simp only [Act.put, List.setIfInBounds_toArray, List.set_cons_zero, List.set_cons_succ])
            generalize hW : World.alloc w _ = W0
            have B1 : Aside0 (W0.heap[w.heap.size]? = some (.cells #[.int .i64 kind, .int .i64 (m : Int)] 56)) := ⟨by rw [← hW]; exact heap_alloc_new w _⟩
            have hz0 : Aside0 (Chg (fun _ => False) w W0) := ⟨by rw [← hW]; exact cg⟩
            clear hW
            have v0 : W0.cell? ⟨w.heap.size, 0, none⟩ = some (.int .i64 kind) := blk_cell B1.out 0
            have v1 : W0.cell? ⟨w.heap.size, 1, none⟩ = some (.int .i64 (m : Int)) := blk_cell B1.out 1
            have x0a := cell_chg0 x0 (w' := W0) cg
            clear x0
            go_wp2
            go_quiet (fail)
            go_wp2
            go_ret
            exact ⟨by first | (rw [hE.out]; done) | (rw [hE.out]; simp), cg⟩
        · have d4 : decide ((m : Int) < ob.length) = false := by simpa using h4
          have d4' : decide ((ob.length : Int) ≤ m) = true := by simpa using h4
          have h5 : ¬ (m : Int) < ob.length := by omega
          have hE : Aside0 (namesQ ob kind (m : Int) = false) := ⟨by unfold namesQ; rw [Int.toNat_natCast, List.getElem?_eq_none_iff.2 (by omega)]; simp⟩
          go_enter Try.func54, Try.ntmps54
          go_wp2
          (try go_quiet (fail))
          (try go_wp2)
          go_ret
          exact ⟨by first | (rw [hE.out]; done) | (rw [hE.out]; simp), cg⟩
      · have d3 : decide (0 ≤ n) = false := by simpa using h3
        have d3' : decide (n < 0) = true := by simpa using h3
        have hE : Aside0 (namesQ ob kind n = false) := ⟨by unfold namesQ; rw [d3]; simp⟩
        go_enter Try.func54, Try.ntmps54
        go_wp2
        (try go_quiet (fail))
        (try go_wp2)
        go_ret
        exact ⟨by first | (rw [hE.out]; done) | (rw [hE.out]; simp), cg⟩
    · have d2 : decide (kind ≤ 9) = false := by simpa using h2
      have d2' : decide (9 < kind) = true := by simpa using h2
      have hE : Aside0 (namesQ ob kind n = false) := ⟨by unfold namesQ; rw [d2]; simp⟩
      go_enter Try.func54, Try.ntmps54
      go_wp2
      (try go_quiet (fail))
      (try go_wp2)
      go_ret
      exact ⟨by first | (rw [hE.out]; done) | (rw [hE.out]; simp), cg⟩
  · have d1 : decide (6 ≤ kind) = false := by simpa using h1
    have d1' : decide (kind < 6) = true := by simpa using h1
    have hE : Aside0 (namesQ ob kind n = false) := ⟨by unfold namesQ; rw [d1]; simp⟩
    go_enter Try.func54, Try.ntmps54
    go_wp2
    (try go_quiet (fail))
    (try go_wp2)
    go_ret
    exact ⟨by first | (rw [hE.out]; done) | (rw [hE.out]; simp), cg⟩
end Go.Proofs.Ytdoghjmanogelaa.K
