import Derived.Test.YtdoghjmanogelaaSg
import Derived.Test.YtdoghjmanogelaaQc
import Derived.Test.YtdoghjmanogelaaWEqStruct
import Derived.IntWalk
import Derived.BigQuiet
import Derived.Deep.RegionHeld3
import Derived.Test.YtdoghjmanogelaaSz
import Derived.Test.YtdoghjmanogelaaSf
namespace Go.Proofs.Ytdoghjmanogelaa.K
open Go.RowKit Go.Proofs.YtdoghjmanogelaaW.PrintWords Go.Proofs.YtdoghjmanogelaaW.PrintLast Go.Proofs.YtdoghjmanogelaaW.PrintMore
set_option linter.unusedVariables false
set_option linter.unusedSimpArgs false
set_option maxRecDepth 100000
def Told (P : Prop) (w : World) (e : Ending) (w' : World) : Prop := ∃ b : Bool, e = .returned (.bool b) ∧ (b = true ↔ P) ∧ Chg (fun _ => False) w w'
theorem told_yes {prog : Program} {f : Nat} {args : Array Value} {P : Prop} {w : World} (h : Calls prog f args w (Told P w)) (hp : P) : Calls prog f args w fun e w' => e = .returned (.bool true) ∧ Chg (fun _ => False) w w' := h.mono fun e w' ⟨b, he, hb, hc⟩ => ⟨by rw [he, hb.2 hp], hc⟩
theorem told_no {prog : Program} {f : Nat} {args : Array Value} {P : Prop} {w : World} (h : Calls prog f args w (Told P w)) (hp : ¬ P) : Calls prog f args w fun e w' => e = .returned (.bool false) ∧ Chg (fun _ => False) w w' := h.mono fun e w' ⟨b, he, hb, hc⟩ => ⟨by cases b; exact he; exact absurd (hb.1 rfl) hp, hc⟩
theorem take_eq_succ {α : Type} {l m : List α} {k : Nat} {x : α} (h : l.take k = m.take k) (h1 : l[k]? = some x) (h2 : m[k]? = some x) : l.take (k + 1) = m.take (k + 1) := by
  have a := (List.getElem?_eq_some_iff.1 h1)
  have b := (List.getElem?_eq_some_iff.1 h2)
  obtain ⟨a1, a2⟩ := a
  obtain ⟨b1, b2⟩ := b
  rw [List.take_succ_eq_append_getElem a1, List.take_succ_eq_append_getElem b1, h, a2, b2]
theorem eqAQV (d : Nat) (w : World) (x0 y0 : Int) (x1 y1 : Int) :
    (Op.equalIn (d + 2) 56 (.agg #[.int .i64 x0, .int .i64 x1]) (.agg #[.int .i64 y0, .int .i64 y1])).run Try.prog w = .ok (x0 == y0 && (x1 == y1)) w := by
  refine eqA_of Try.underlying56 (by kernel_rfl) ?_
  refine eqf_cons (by rfl) (by go_simp; rfl) (by go_simp; rfl) (by go_simp) ?_
  exact eqf_last (by rfl) (by go_simp; rfl) (by go_simp; rfl) (by go_simp)
attribute [local go_sem high] eqAQV
theorem same_Longs (w : World) (A B : Option Addr) (n m ca cb : Nat) (l l2 : List Int) (h1 : Kd.C (Kd.int .i64) w A n l) (h2 : Kd.C (Kd.int .i64) w B m l2) :
    Calls Try.prog 101 #[.slice A n ca, .slice B m cb] w (Told (l = l2) w) := by
  have e1 := h1.1
  have e2 := h2.1
  have hb := h1.2.1
  have hb2 := h2.2.1
  subst e1 e2
  have hCA := Aside0.mk h1
  have hDA := Aside0.mk h2
  clear h1 h2
  by_cases hlen : l.length = l2.length
  · go_enter Try.func101, Try.ntmps101
    go_wp2
    go_loopw [5] (fun i wr => ∃ k : Nat, i = .int .i64 k ∧ k ≤ l.length ∧ Aside0 (l.take k = l2.take k) ∧ Aside0 (Chg (fun _ => False) w wr)) (fun i _ => l.length - (intOf i).toNat)
    case atStart => exact ⟨0, rfl, by omega, ⟨rfl⟩, ⟨Chg.refl _ _⟩⟩
    case round =>
      obtain ⟨k, rfl, hk, hE, hCh⟩ := hrel
      by_cases hlt : k < l.length
      · obtain ⟨ad, x, e1, e2, x0⟩ := i64_at (l := l) (w := wr) cC k hlt
        obtain ⟨bd, y, e3, e4, y0⟩ := i64_at (l := l2) (w := wr) cC k (by omega)
        subst e1 e3
        have hk0 : (0 : Int) ≤ k := by omega
        have hk1 : (k : Int) < l.length := by omega
        have hk2 : (k : Int) < l2.length := by omega
        have e2A := Aside0.mk e2
        have e4A := Aside0.mk e4
        have hlenA := Aside0.mk hlen
        clear e2 e4 hlen
        by_cases hxy : x = y
        · subst hxy
          go_wp2
          (try go_quiet (fail))
          (try go_wp2)
          go_roundw
          case measure => first | (simp [intOf]; done) | (simp [intOf]; omega)
          case rel => exact ⟨k + 1, by go_num, by omega, ⟨take_eq_succ hE.out e2A.out e4A.out⟩, ⟨cg⟩⟩
        · have hq : (x != y) = true := by simpa using hxy
          have hno : Aside0 (l ≠ l2) := ⟨fun h => by rw [h, e4A.out] at e2A; exact hxy (Option.some.inj e2A.out).symm⟩
          clear hxy
          go_wp2
          (try go_quiet (fail))
          (try go_wp2)
          go_ret
          exact ⟨false, by simp, ⟨fun h => (by cases h), fun h => absurd h hno.out⟩, cg⟩
      · obtain rfl : k = l.length := by omega
        go_wp2
        go_ret
        have h := hE.out
        rw [List.take_length, hlen, List.take_length] at h
        exact ⟨true, rfl, by simp [h], cg⟩
  · have hne : ((l.length : Int) != l2.length) = true := by rw [bne_iff_ne]; omega
    have hlA := Aside0.mk hlen
    clear hlen
    go_enter Try.func101, Try.ntmps101
    go_wp2
    go_ret
    exact ⟨false, rfl, ⟨fun h => (by cases h), fun h => absurd (congrArg List.length h) hlA.out⟩, cg⟩
theorem same_Texts (w : World) (A B : Option Addr) (n m ca cb : Nat) (l l2 : List ByteArray) (h1 : Kd.C Kd.string w A n l) (h2 : Kd.C Kd.string w B m l2) :
    Calls Try.prog 63 #[.slice A n ca, .slice B m cb] w (Told (l = l2) w) := by
  have e1 := h1.1
  have e2 := h2.1
  have hb := h1.2.1
  have hb2 := h2.2.1
  subst e1 e2
  have hCA := Aside0.mk h1
  have hDA := Aside0.mk h2
  clear h1 h2
  by_cases hlen : l.length = l2.length
  · go_enter Try.func63, Try.ntmps63
    go_wp2
    go_loopw [5] (fun i wr => ∃ k : Nat, i = .int .i64 k ∧ k ≤ l.length ∧ Aside0 (l.take k = l2.take k) ∧ Aside0 (Chg (fun _ => False) w wr)) (fun i _ => l.length - (intOf i).toNat)
    case atStart => exact ⟨0, rfl, by omega, ⟨rfl⟩, ⟨Chg.refl _ _⟩⟩
    case round =>
      obtain ⟨k, rfl, hk, hE, hCh⟩ := hrel
      by_cases hlt : k < l.length
      · obtain ⟨ad, x, e1, e2, x0⟩ := str_at (l := l) (w := wr) cC k hlt
        obtain ⟨bd, y, e3, e4, y0⟩ := str_at (l := l2) (w := wr) cC k (by omega)
        subst e1 e3
        have hk0 : (0 : Int) ≤ k := by omega
        have hk1 : (k : Int) < l.length := by omega
        have hk2 : (k : Int) < l2.length := by omega
        have e2A := Aside0.mk e2
        have e4A := Aside0.mk e4
        have hlenA := Aside0.mk hlen
        clear e2 e4 hlen
        by_cases hxy : x = y
        · subst hxy
          go_wp2
          (try go_quiet (fail))
          (try go_wp2)
          go_roundw
          case measure => first | (simp [intOf]; done) | (simp [intOf]; omega)
          case rel => exact ⟨k + 1, by go_num, by omega, ⟨take_eq_succ hE.out e2A.out e4A.out⟩, ⟨cg⟩⟩
        · have hq : (x.toList == y.toList) = false := by rw [ba_beqQ]; simpa using hxy
          have hno : Aside0 (l ≠ l2) := ⟨fun h => by rw [h, e4A.out] at e2A; exact hxy (Option.some.inj e2A.out).symm⟩
          clear hxy
          go_wp2
          (try go_quiet (fail))
          (try go_wp2)
          go_ret
          exact ⟨false, by simp, ⟨fun h => (by cases h), fun h => absurd h hno.out⟩, cg⟩
      · obtain rfl : k = l.length := by omega
        go_wp2
        go_ret
        have h := hE.out
        rw [List.take_length, hlen, List.take_length] at h
        exact ⟨true, rfl, by simp [h], cg⟩
  · have hne : ((l.length : Int) != l2.length) = true := by rw [bne_iff_ne]; omega
    have hlA := Aside0.mk hlen
    clear hlen
    go_enter Try.func63, Try.ntmps63
    go_wp2
    go_ret
    exact ⟨false, rfl, ⟨fun h => (by cases h), fun h => absurd (congrArg List.length h) hlA.out⟩, cg⟩
theorem same_Values (w : World) (A B : Option Addr) (n m ca cb : Nat) (l l2 : List QV) (h1 : Kd.C kQV w A n l) (h2 : Kd.C kQV w B m l2) :
    Calls Try.prog 100 #[.slice A n ca, .slice B m cb] w (Told (l = l2) w) := by
  have e1 := h1.1
  have e2 := h2.1
  have hb := h1.2.1
  have hb2 := h2.2.1
  subst e1 e2
  have hCA := Aside0.mk h1
  have hDA := Aside0.mk h2
  clear h1 h2
  by_cases hlen : l.length = l2.length
  · go_enter Try.func100, Try.ntmps100
    go_wp2
    go_loopw [5] (fun i wr => ∃ k : Nat, i = .int .i64 k ∧ k ≤ l.length ∧ Aside0 (l.take k = l2.take k) ∧ Aside0 (Chg (fun _ => False) w wr)) (fun i _ => l.length - (intOf i).toNat)
    case atStart => exact ⟨0, rfl, by omega, ⟨rfl⟩, ⟨Chg.refl _ _⟩⟩
    case round =>
      obtain ⟨k, rfl, hk, hE, hCh⟩ := hrel
      by_cases hlt : k < l.length
      · obtain ⟨ad, xk, xn, e1, e2, x0, x1⟩ := kQV_at (l := l) (w := wr) cC k hlt
        obtain ⟨bd, yk, yn, e3, e4, y0, y1⟩ := kQV_at (l := l2) (w := wr) cC k (by omega)
        subst e1 e3
        have hk0 : (0 : Int) ≤ k := by omega
        have hk1 : (k : Int) < l.length := by omega
        have hk2 : (k : Int) < l2.length := by omega
        have e2A := Aside0.mk e2
        have e4A := Aside0.mk e4
        have hlenA := Aside0.mk hlen
        clear e2 e4 hlen
        by_cases hxk : xk = yk
        · subst hxk
          by_cases hxy : xn = yn
          · subst hxy
            go_wp2
            (try go_quiet (fail))
            (try go_wp2)
            go_roundw
            case measure => first | (simp [intOf]; done) | (simp [intOf]; omega)
            case rel => exact ⟨k + 1, by go_num, by omega, ⟨take_eq_succ hE.out e2A.out e4A.out⟩, ⟨cg⟩⟩
          · have hq : (xn == yn) = false := by simpa using hxy
            have hq2 : (xn != yn) = true := by simpa using hxy
            have hno : Aside0 (l ≠ l2) := ⟨fun h => by rw [h, e4A.out] at e2A; have h9 := Option.some.inj e2A.out; injection h9 with h8 h7; exact hxy h7.symm⟩
            clear hxy
            go_wp2
            (try go_quiet (fail))
            (try go_wp2)
            go_ret
            exact ⟨false, by simp, ⟨fun h => (by cases h), fun h => absurd h hno.out⟩, cg⟩
        · have hq : (xk == yk) = false := by simpa using hxk
          have hq2 : (xk != yk) = true := by simpa using hxk
          have hno : Aside0 (l ≠ l2) := ⟨fun h => by rw [h, e4A.out] at e2A; have h9 := Option.some.inj e2A.out; injection h9 with h8 h7; exact hxk h8.symm⟩
          clear hxk
          go_wp2
          (try go_quiet (fail))
          (try go_wp2)
          go_ret
          exact ⟨false, by simp, ⟨fun h => (by cases h), fun h => absurd h hno.out⟩, cg⟩
      · obtain rfl : k = l.length := by omega
        go_wp2
        go_ret
        have h := hE.out
        rw [List.take_length, hlen, List.take_length] at h
        exact ⟨true, rfl, by simp [h], cg⟩
  · have hne : ((l.length : Int) != l2.length) = true := by rw [bne_iff_ne]; omega
    have hlA := Aside0.mk hlen
    clear hlen
    go_enter Try.func100, Try.ntmps100
    go_wp2
    go_ret
    exact ⟨false, rfl, ⟨fun h => (by cases h), fun h => absurd (congrArg List.length h) hlA.out⟩, cg⟩
end Go.Proofs.Ytdoghjmanogelaa.K

namespace Go.Proofs.Ytdoghjmanogelaa.K
open Go.RowKit Go.Proofs.YtdoghjmanogelaaW.PrintWords Go.Proofs.YtdoghjmanogelaaW.PrintLast Go.Proofs.YtdoghjmanogelaaW.PrintMore
set_option linter.unusedVariables false
set_option linter.unusedSimpArgs false
set_option maxRecDepth 100000
set_option maxHeartbeats 4000000
theorem same_Object (w : World) (r q : RO) (x y : QO) (h1 : RawO w r x) (h2 : RawO w q y) :
    Calls Try.prog 88 #[.agg (cellsRO r).toArray, .agg (cellsRO q).toArray] w (Told (x = y) w) := by
  obtain ⟨k1, ⟨iA, iN, iC⟩, ⟨kA, kN, kC⟩, f1, c1, s1⟩ := r
  obtain ⟨k2, ⟨jA, jN, jC⟩, ⟨lA, lN, lC⟩, f2, c2, s2⟩ := q
  obtain ⟨xk, xi, xs, xf, xc, xh⟩ := x
  obtain ⟨yk, yi, ys, yf, yc, yh⟩ := y
  obtain ⟨a1, a2, a3, a4, a5, a6⟩ := h1
  obtain ⟨b1, b2, b3, b4, b5, b6⟩ := h2
  simp only at a1 a2 a3 a4 a5 a6 b1 b2 b3 b4 b5 b6
  subst a1 a2 a3 a4 b1 b2 b3 b4
  replace a5 := Aside0.mk a5
  replace a6 := Aside0.mk a6
  replace b5 := Aside0.mk b5
  replace b6 := Aside0.mk b6
  by_cases h_k1 : k1 = k2
  · subst h_k1
    by_cases h_f1 : f1 = f2
    · subst h_f1
      by_cases h_c1 : c1 = c2
      · subst h_c1
        by_cases h_s1 : s1 = s2
        · subst h_s1
          have B1 : Aside0 ((w.alloc (.cells #[.int .i64 k1, .slice iA iN iC, .slice kA kN kC, .int .i64 f1, .int .i64 c1, .bool s1] 59)).heap[w.heap.size]? = some (.cells #[.int .i64 k1, .slice iA iN iC, .slice kA kN kC, .int .i64 f1, .int .i64 c1, .bool s1] 59)) := ⟨heap_alloc_new w _⟩
          have B2 : Aside0 (((w.alloc (.cells #[.int .i64 k1, .slice iA iN iC, .slice kA kN kC, .int .i64 f1, .int .i64 c1, .bool s1] 59)).alloc (.cells #[.int .i64 k1, .slice jA jN jC, .slice lA lN lC, .int .i64 f1, .int .i64 c1, .bool s1] 59)).heap[w.heap.size + 1]? = some (.cells #[.int .i64 k1, .slice jA jN jC, .slice lA lN lC, .int .i64 f1, .int .i64 c1, .bool s1] 59)) := ⟨heap_alloc2_new w _ _⟩
          by_cases h_i : xi = yi
          · by_cases h_s : xs = ys
            · have hT : Aside0 (xi = yi ∧ xs = ys) := ⟨⟨h_i, h_s⟩⟩
              replace h_i := Aside0.mk h_i
              replace h_s := Aside0.mk h_s
              go_enter Try.func88, Try.ntmps88
              go_wp2_with (first | (go_at_call 100; go_must (refine (told_yes (same_Values _ iA jA iN jN iC jC xi yi cC cC) h_i.out).mono ?_); go_must (rintro e w1 ⟨rfl, hc1⟩); go_must (replace hc1 := Aside0.mk hc1); go_must (have p1_0 : w1.cell? ⟨w.heap.size, 2, none⟩ = some (.slice kA kN kC) := blk_cell (cs := #[.int .i64 k1, .slice iA iN iC, .slice kA kN kC, .int .i64 f1, .int .i64 c1, .bool s1]) (t := 59) bk 2); go_must (have p1_1 : w1.cell? ⟨w.heap.size + 1, 2, none⟩ = some (.slice lA lN lC) := blk_cell (cs := #[.int .i64 k1, .slice jA jN jC, .slice lA lN lC, .int .i64 f1, .int .i64 c1, .bool s1]) (t := 59) bk 2)) | (go_at_call 101; go_must (refine (told_yes (same_Longs _ kA lA kN lN kC lC xs ys cC cC) h_s.out).mono ?_); go_must (rintro e w2 ⟨rfl, hc2⟩); go_must (replace hc2 := Aside0.mk hc2)))
              go_ret
              exact ⟨true, rfl, ⟨fun _ => (by rw [hT.out.1, hT.out.2]), fun _ => rfl⟩, cg⟩
            · replace h_i := Aside0.mk h_i
              replace h_s := Aside0.mk h_s
              go_enter Try.func88, Try.ntmps88
              go_wp2_with (first | (go_at_call 100; go_must (refine (told_yes (same_Values _ iA jA iN jN iC jC xi yi cC cC) h_i.out).mono ?_); go_must (rintro e w1 ⟨rfl, hc1⟩); go_must (replace hc1 := Aside0.mk hc1); go_must (have p1_0 : w1.cell? ⟨w.heap.size, 2, none⟩ = some (.slice kA kN kC) := blk_cell (cs := #[.int .i64 k1, .slice iA iN iC, .slice kA kN kC, .int .i64 f1, .int .i64 c1, .bool s1]) (t := 59) bk 2); go_must (have p1_1 : w1.cell? ⟨w.heap.size + 1, 2, none⟩ = some (.slice lA lN lC) := blk_cell (cs := #[.int .i64 k1, .slice jA jN jC, .slice lA lN lC, .int .i64 f1, .int .i64 c1, .bool s1]) (t := 59) bk 2)) | (go_at_call 101; go_must (refine (told_no (same_Longs _ kA lA kN lN kC lC xs ys cC cC) h_s.out).mono ?_); go_must (rintro e w2 ⟨rfl, hc2⟩); go_must (replace hc2 := Aside0.mk hc2)))
              go_ret
              exact ⟨false, rfl, ⟨fun h => (by cases h), fun h => (by injection h with _ _ h1; exact absurd h1 h_s.out)⟩, cg⟩
          · replace h_i := Aside0.mk h_i
            go_enter Try.func88, Try.ntmps88
            go_wp2_with ((go_at_call 100; go_must (refine (told_no (same_Values _ iA jA iN jN iC jC xi yi cC cC) h_i.out).mono ?_); go_must (rintro e w1 ⟨rfl, hc1⟩); go_must (replace hc1 := Aside0.mk hc1); go_must (have p1_0 : w1.cell? ⟨w.heap.size, 2, none⟩ = some (.slice kA kN kC) := blk_cell (cs := #[.int .i64 k1, .slice iA iN iC, .slice kA kN kC, .int .i64 f1, .int .i64 c1, .bool s1]) (t := 59) bk 2); go_must (have p1_1 : w1.cell? ⟨w.heap.size + 1, 2, none⟩ = some (.slice lA lN lC) := blk_cell (cs := #[.int .i64 k1, .slice jA jN jC, .slice lA lN lC, .int .i64 f1, .int .i64 c1, .bool s1]) (t := 59) bk 2)))
            go_ret
            exact ⟨false, rfl, ⟨fun h => (by cases h), fun h => (by injection h with _ h1; exact absurd h1 h_i.out)⟩, cg⟩
        · have n_s1 : (s1 != s2) = true := by simpa using h_s1
          have m_s1 : (s1 == s2) = false := by simpa using h_s1
          go_enter Try.func88, Try.ntmps88
          go_wp2
          go_ret
          exact ⟨false, rfl, ⟨fun h => (by cases h), fun h => (by injection h; contradiction)⟩, cg⟩
      · have n_c1 : (c1 != c2) = true := by simpa using h_c1
        have m_c1 : (c1 == c2) = false := by simpa using h_c1
        go_enter Try.func88, Try.ntmps88
        go_wp2
        go_ret
        exact ⟨false, rfl, ⟨fun h => (by cases h), fun h => (by injection h; contradiction)⟩, cg⟩
    · have n_f1 : (f1 != f2) = true := by simpa using h_f1
      have m_f1 : (f1 == f2) = false := by simpa using h_f1
      go_enter Try.func88, Try.ntmps88
      go_wp2
      go_ret
      exact ⟨false, rfl, ⟨fun h => (by cases h), fun h => (by injection h; contradiction)⟩, cg⟩
  · have n_k1 : (k1 != k2) = true := by simpa using h_k1
    have m_k1 : (k1 == k2) = false := by simpa using h_k1
    go_enter Try.func88, Try.ntmps88
    go_wp2
    go_ret
    exact ⟨false, rfl, ⟨fun h => (by cases h), fun h => (by injection h; contradiction)⟩, cg⟩
theorem same_Frame (w : World) (r q : RF) (x y : QFr) (h1 : RawF w r x) (h2 : RawF w q y) :
    Calls Try.prog 102 #[.agg (cellsRF r).toArray, .agg (cellsRF q).toArray] w (Told (x = y) w) := by
  obtain ⟨k1, c1, ⟨iA, iN, iC⟩⟩ := r
  obtain ⟨k2, c2, ⟨jA, jN, jC⟩⟩ := q
  obtain ⟨xk, xc, xi⟩ := x
  obtain ⟨yk, yc, yi⟩ := y
  obtain ⟨a1, a2, a5⟩ := h1
  obtain ⟨b1, b2, b5⟩ := h2
  simp only at a1 a2 a5 b1 b2 b5
  subst a1 a2 b1 b2
  replace a5 := Aside0.mk a5
  replace b5 := Aside0.mk b5
  by_cases h_k1 : k1 = k2
  · subst h_k1
    by_cases h_c1 : c1 = c2
    · subst h_c1
      by_cases h_i : xi = yi
      · have hT : Aside0 (xi = yi) := ⟨h_i⟩
        replace h_i := Aside0.mk h_i
        go_enter Try.func102, Try.ntmps102
        go_wp2_with ((go_at_call 100; go_must (refine (told_yes (same_Values _ iA jA iN jN iC jC xi yi cC cC) h_i.out).mono ?_); go_must (rintro e w1 ⟨rfl, hc1⟩); go_must (replace hc1 := Aside0.mk hc1)))
        go_ret
        exact ⟨true, rfl, ⟨fun _ => (by rw [hT.out]), fun _ => rfl⟩, cg⟩
      · replace h_i := Aside0.mk h_i
        go_enter Try.func102, Try.ntmps102
        go_wp2_with ((go_at_call 100; go_must (refine (told_no (same_Values _ iA jA iN jN iC jC xi yi cC cC) h_i.out).mono ?_); go_must (rintro e w1 ⟨rfl, hc1⟩); go_must (replace hc1 := Aside0.mk hc1)))
        go_ret
        exact ⟨false, rfl, ⟨fun h => (by cases h), fun h => (by injection h with _ _ h1; exact absurd h1 h_i.out)⟩, cg⟩
    · have n_c1 : (c1 != c2) = true := by simpa using h_c1
      have m_c1 : (c1 == c2) = false := by simpa using h_c1
      go_enter Try.func102, Try.ntmps102
      go_wp2
      go_ret
      exact ⟨false, rfl, ⟨fun h => (by cases h), fun h => (by injection h; contradiction)⟩, cg⟩
  · have n_k1 : (k1 != k2) = true := by simpa using h_k1
    have m_k1 : (k1 == k2) = false := by simpa using h_k1
    go_enter Try.func102, Try.ntmps102
    go_wp2
    go_ret
    exact ⟨false, rfl, ⟨fun h => (by cases h), fun h => (by injection h; contradiction)⟩, cg⟩
end Go.Proofs.Ytdoghjmanogelaa.K

namespace Go.Proofs.Ytdoghjmanogelaa.K
open Go.RowKit Go.Proofs.YtdoghjmanogelaaW.PrintWords Go.Proofs.YtdoghjmanogelaaW.PrintLast Go.Proofs.YtdoghjmanogelaaW.PrintMore
set_option linter.unusedVariables false
set_option linter.unusedSimpArgs false
set_option maxRecDepth 100000
set_option maxHeartbeats 4000000
theorem told_of {prog : Program} {f : Nat} {args : Array Value} {P Q : Prop} {w : World} (hPQ : P ↔ Q) (h : Calls prog f args w (Told Q w)) : Calls prog f args w (Told P w) := h.mono fun e w' ⟨b, he, hb, hc⟩ => ⟨b, he, hb.trans hPQ.symm, hc⟩
theorem same_Objects (w : World) (A B : Option Addr) (n m ca cb : Nat) (rs qs : List RO) (l l2 : List QO) (h1 : Kd.C kRO w A n rs) (h2 : Kd.C kRO w B m qs) (e1 : rs.length = l.length) (e2 : qs.length = l2.length) (r1 : ∀ (k : Nat) (r : RO) (x : QO), rs[k]? = some r → l[k]? = some x → RawO w r x) (r2 : ∀ (k : Nat) (r : RO) (x : QO), qs[k]? = some r → l2[k]? = some x → RawO w r x) :
    Calls Try.prog 64 #[.slice A n ca, .slice B m cb] w (Told (l = l2) w) := by
  have e3 := h1.1
  have e4 := h2.1
  have hb := h1.2.1
  have hb2 := h2.2.1
  rw [e1] at e3
  rw [e2] at e4
  subst e3 e4
  have hCA := Aside0.mk h1
  have hDA := Aside0.mk h2
  have hrA := Aside0.mk r1
  have hqA := Aside0.mk r2
  clear h1 h2 e1 e2 r1 r2
  by_cases hlen : l.length = l2.length
  · go_enter Try.func64, Try.ntmps64
    go_wp2
    go_loopw [5] (fun i wr => ∃ k : Nat, i = .int .i64 k ∧ k ≤ l.length ∧ Aside0 (l.take k = l2.take k) ∧ Aside0 (Chg (fun _ => False) w wr)) (fun i _ => l.length - (intOf i).toNat)
    case atStart => exact ⟨0, rfl, by omega, ⟨rfl⟩, ⟨Chg.refl _ _⟩⟩
    case round =>
      obtain ⟨k, rfl, hk, hE, hCh⟩ := hrel
      by_cases hlt : k < l.length
      · have hlt0 := hlt
        obtain ⟨ad, r, e1, e2, x0, x1, x2, x3, x4, x5⟩ := atRO (l := rs) (w := wr) cC k hlt
        obtain ⟨bd, q, e3, e4, y0, y1, y2, y3, y4, y5⟩ := atRO (l := qs) (w := wr) cC k (by omega)
        subst e1 e3
        have hk0 : (0 : Int) ≤ k := by omega
        have hk1 : (k : Int) < l.length := by omega
        have hk2 : (k : Int) < l2.length := by omega
        obtain ⟨x, hx⟩ : ∃ x, l[k]? = some x := ⟨_, List.getElem?_eq_getElem hlt⟩
        obtain ⟨y, hy⟩ : ∃ y, l2[k]? = some y := ⟨_, List.getElem?_eq_getElem (by omega)⟩
        have hr := Aside0.mk ((hrA.out k r x e2 hx).below (w' := wr) bl)
        have hq := Aside0.mk ((hqA.out k q y e4 hy).below (w' := wr) bl)
        have hxA := Aside0.mk hx
        have hyA := Aside0.mk hy
        have hlenA := Aside0.mk hlen
        clear e2 e4 hx hy hlen
        by_cases hxy : x = y
        · have hxy2 := Aside0.mk hxy
          replace hxy := Aside0.mk hxy
          go_wp2
          go_region_held3 (fun w' => w'.cell? (ad.add (k * 6)) = some (.int .i64 r.kind) ∧ w'.cell? ⟨(ad.add (k * 6)).block, (ad.add (k * 6)).off + 1, none⟩ = some (.slice r.items.1 r.items.2.1 r.items.2.2) ∧ w'.cell? ⟨(ad.add (k * 6)).block, (ad.add (k * 6)).off + 2, none⟩ = some (.slice r.keys.1 r.keys.2.1 r.keys.2.2) ∧ w'.cell? ⟨(ad.add (k * 6)).block, (ad.add (k * 6)).off + 3, none⟩ = some (.int .i64 r.fn) ∧ w'.cell? ⟨(ad.add (k * 6)).block, (ad.add (k * 6)).off + 4, none⟩ = some (.int .i64 r.cap) ∧ w'.cell? ⟨(ad.add (k * 6)).block, (ad.add (k * 6)).off + 5, none⟩ = some (.bool r.shut) ∧ w'.cell? (bd.add (k * 6)) = some (.int .i64 q.kind) ∧ w'.cell? ⟨(bd.add (k * 6)).block, (bd.add (k * 6)).off + 1, none⟩ = some (.slice q.items.1 q.items.2.1 q.items.2.2) ∧ w'.cell? ⟨(bd.add (k * 6)).block, (bd.add (k * 6)).off + 2, none⟩ = some (.slice q.keys.1 q.keys.2.1 q.keys.2.2) ∧ w'.cell? ⟨(bd.add (k * 6)).block, (bd.add (k * 6)).off + 3, none⟩ = some (.int .i64 q.fn) ∧ w'.cell? ⟨(bd.add (k * 6)).block, (bd.add (k * 6)).off + 4, none⟩ = some (.int .i64 q.cap) ∧ w'.cell? ⟨(bd.add (k * 6)).block, (bd.add (k * 6)).off + 5, none⟩ = some (.bool q.shut)) (first | exact ⟨x0, x1, x2, x3, x4, x5, y0, y1, y2, y3, y4, y5⟩ | go_keep | exact ⟨kc, kc, kc, kc, kc, kc, kc, kc, kc, kc, kc, kc⟩) ((go_at_call 88; (refine (told_yes (same_Object _ r q x y (hr.out.below bl) (hq.out.below bl)) hxy.out).mono ?_); (rintro e w3 ⟨rfl, hc3⟩); (replace hc3 := Aside0.mk hc3)))
          go_wp2
          go_roundw
          case measure => first | (simp [intOf]; done) | (simp [intOf]; omega)
          case rel => exact ⟨k + 1, by go_num, by omega, ⟨take_eq_succ hE.out hxA.out (by rw [hxy2.out]; exact hyA.out)⟩, ⟨cg⟩⟩
        · have hno : Aside0 (l ≠ l2) := ⟨fun h => by rw [h, hyA.out] at hxA; exact hxy (Option.some.inj hxA.out).symm⟩
          replace hxy := Aside0.mk hxy
          go_wp2
          go_region_held3 (fun w' => w'.cell? (ad.add (k * 6)) = some (.int .i64 r.kind) ∧ w'.cell? ⟨(ad.add (k * 6)).block, (ad.add (k * 6)).off + 1, none⟩ = some (.slice r.items.1 r.items.2.1 r.items.2.2) ∧ w'.cell? ⟨(ad.add (k * 6)).block, (ad.add (k * 6)).off + 2, none⟩ = some (.slice r.keys.1 r.keys.2.1 r.keys.2.2) ∧ w'.cell? ⟨(ad.add (k * 6)).block, (ad.add (k * 6)).off + 3, none⟩ = some (.int .i64 r.fn) ∧ w'.cell? ⟨(ad.add (k * 6)).block, (ad.add (k * 6)).off + 4, none⟩ = some (.int .i64 r.cap) ∧ w'.cell? ⟨(ad.add (k * 6)).block, (ad.add (k * 6)).off + 5, none⟩ = some (.bool r.shut) ∧ w'.cell? (bd.add (k * 6)) = some (.int .i64 q.kind) ∧ w'.cell? ⟨(bd.add (k * 6)).block, (bd.add (k * 6)).off + 1, none⟩ = some (.slice q.items.1 q.items.2.1 q.items.2.2) ∧ w'.cell? ⟨(bd.add (k * 6)).block, (bd.add (k * 6)).off + 2, none⟩ = some (.slice q.keys.1 q.keys.2.1 q.keys.2.2) ∧ w'.cell? ⟨(bd.add (k * 6)).block, (bd.add (k * 6)).off + 3, none⟩ = some (.int .i64 q.fn) ∧ w'.cell? ⟨(bd.add (k * 6)).block, (bd.add (k * 6)).off + 4, none⟩ = some (.int .i64 q.cap) ∧ w'.cell? ⟨(bd.add (k * 6)).block, (bd.add (k * 6)).off + 5, none⟩ = some (.bool q.shut)) (first | exact ⟨x0, x1, x2, x3, x4, x5, y0, y1, y2, y3, y4, y5⟩ | go_keep | exact ⟨kc, kc, kc, kc, kc, kc, kc, kc, kc, kc, kc, kc⟩) ((go_at_call 88; (refine (told_no (same_Object _ r q x y (hr.out.below bl) (hq.out.below bl)) hxy.out).mono ?_); (rintro e w3 ⟨rfl, hc3⟩); (replace hc3 := Aside0.mk hc3)))
          go_wp2
          go_ret
          exact ⟨false, by simp, ⟨fun h => (by cases h), fun h => absurd h hno.out⟩, cg⟩
      · obtain rfl : k = l.length := by omega
        go_wp2
        go_ret
        have h := hE.out
        rw [List.take_length, hlen, List.take_length] at h
        exact ⟨true, rfl, by simp [h], cg⟩
  · have hne : ((l.length : Int) != l2.length) = true := by rw [bne_iff_ne]; omega
    have hlA := Aside0.mk hlen
    clear hlen
    go_enter Try.func64, Try.ntmps64
    go_wp2
    go_ret
    exact ⟨false, rfl, ⟨fun h => (by cases h), fun h => absurd (congrArg List.length h) hlA.out⟩, cg⟩
theorem same_Frames (w : World) (A B : Option Addr) (n m ca cb : Nat) (rs qs : List RF) (l l2 : List QFr) (h1 : Kd.C kRF w A n rs) (h2 : Kd.C kRF w B m qs) (e1 : rs.length = l.length) (e2 : qs.length = l2.length) (r1 : ∀ (k : Nat) (r : RF) (x : QFr), rs[k]? = some r → l[k]? = some x → RawF w r x) (r2 : ∀ (k : Nat) (r : RF) (x : QFr), qs[k]? = some r → l2[k]? = some x → RawF w r x) :
    Calls Try.prog 89 #[.slice A n ca, .slice B m cb] w (Told (l = l2) w) := by
  have e3 := h1.1
  have e4 := h2.1
  have hb := h1.2.1
  have hb2 := h2.2.1
  rw [e1] at e3
  rw [e2] at e4
  subst e3 e4
  have hCA := Aside0.mk h1
  have hDA := Aside0.mk h2
  have hrA := Aside0.mk r1
  have hqA := Aside0.mk r2
  clear h1 h2 e1 e2 r1 r2
  by_cases hlen : l.length = l2.length
  · go_enter Try.func89, Try.ntmps89
    go_wp2
    go_loopw [5] (fun i wr => ∃ k : Nat, i = .int .i64 k ∧ k ≤ l.length ∧ Aside0 (l.take k = l2.take k) ∧ Aside0 (Chg (fun _ => False) w wr)) (fun i _ => l.length - (intOf i).toNat)
    case atStart => exact ⟨0, rfl, by omega, ⟨rfl⟩, ⟨Chg.refl _ _⟩⟩
    case round =>
      obtain ⟨k, rfl, hk, hE, hCh⟩ := hrel
      by_cases hlt : k < l.length
      · have hlt0 := hlt
        obtain ⟨ad, r, e1, e2, x0, x1, x2⟩ := atRF (l := rs) (w := wr) cC k hlt
        obtain ⟨bd, q, e3, e4, y0, y1, y2⟩ := atRF (l := qs) (w := wr) cC k (by omega)
        subst e1 e3
        have hk0 : (0 : Int) ≤ k := by omega
        have hk1 : (k : Int) < l.length := by omega
        have hk2 : (k : Int) < l2.length := by omega
        obtain ⟨x, hx⟩ : ∃ x, l[k]? = some x := ⟨_, List.getElem?_eq_getElem hlt⟩
        obtain ⟨y, hy⟩ : ∃ y, l2[k]? = some y := ⟨_, List.getElem?_eq_getElem (by omega)⟩
        have hr := Aside0.mk ((hrA.out k r x e2 hx).below (w' := wr) bl)
        have hq := Aside0.mk ((hqA.out k q y e4 hy).below (w' := wr) bl)
        have hxA := Aside0.mk hx
        have hyA := Aside0.mk hy
        have hlenA := Aside0.mk hlen
        clear e2 e4 hx hy hlen
        by_cases hxy : x = y
        · have hxy2 := Aside0.mk hxy
          replace hxy := Aside0.mk hxy
          go_wp2
          go_region_held3 (fun w' => w'.cell? (ad.add (k * 3)) = some (.int .i64 r.fn) ∧ w'.cell? ⟨(ad.add (k * 3)).block, (ad.add (k * 3)).off + 1, none⟩ = some (.int .i64 r.pc) ∧ w'.cell? ⟨(ad.add (k * 3)).block, (ad.add (k * 3)).off + 2, none⟩ = some (.slice r.slots.1 r.slots.2.1 r.slots.2.2) ∧ w'.cell? (bd.add (k * 3)) = some (.int .i64 q.fn) ∧ w'.cell? ⟨(bd.add (k * 3)).block, (bd.add (k * 3)).off + 1, none⟩ = some (.int .i64 q.pc) ∧ w'.cell? ⟨(bd.add (k * 3)).block, (bd.add (k * 3)).off + 2, none⟩ = some (.slice q.slots.1 q.slots.2.1 q.slots.2.2)) (first | exact ⟨x0, x1, x2, y0, y1, y2⟩ | go_keep | exact ⟨kc, kc, kc, kc, kc, kc⟩) ((go_at_call 102; (refine (told_yes (same_Frame _ r q x y (hr.out.below bl) (hq.out.below bl)) hxy.out).mono ?_); (rintro e w3 ⟨rfl, hc3⟩); (replace hc3 := Aside0.mk hc3)))
          go_wp2
          go_roundw
          case measure => first | (simp [intOf]; done) | (simp [intOf]; omega)
          case rel => exact ⟨k + 1, by go_num, by omega, ⟨take_eq_succ hE.out hxA.out (by rw [hxy2.out]; exact hyA.out)⟩, ⟨cg⟩⟩
        · have hno : Aside0 (l ≠ l2) := ⟨fun h => by rw [h, hyA.out] at hxA; exact hxy (Option.some.inj hxA.out).symm⟩
          replace hxy := Aside0.mk hxy
          go_wp2
          go_region_held3 (fun w' => w'.cell? (ad.add (k * 3)) = some (.int .i64 r.fn) ∧ w'.cell? ⟨(ad.add (k * 3)).block, (ad.add (k * 3)).off + 1, none⟩ = some (.int .i64 r.pc) ∧ w'.cell? ⟨(ad.add (k * 3)).block, (ad.add (k * 3)).off + 2, none⟩ = some (.slice r.slots.1 r.slots.2.1 r.slots.2.2) ∧ w'.cell? (bd.add (k * 3)) = some (.int .i64 q.fn) ∧ w'.cell? ⟨(bd.add (k * 3)).block, (bd.add (k * 3)).off + 1, none⟩ = some (.int .i64 q.pc) ∧ w'.cell? ⟨(bd.add (k * 3)).block, (bd.add (k * 3)).off + 2, none⟩ = some (.slice q.slots.1 q.slots.2.1 q.slots.2.2)) (first | exact ⟨x0, x1, x2, y0, y1, y2⟩ | go_keep | exact ⟨kc, kc, kc, kc, kc, kc⟩) ((go_at_call 102; (refine (told_no (same_Frame _ r q x y (hr.out.below bl) (hq.out.below bl)) hxy.out).mono ?_); (rintro e w3 ⟨rfl, hc3⟩); (replace hc3 := Aside0.mk hc3)))
          go_wp2
          go_ret
          exact ⟨false, by simp, ⟨fun h => (by cases h), fun h => absurd h hno.out⟩, cg⟩
      · obtain rfl : k = l.length := by omega
        go_wp2
        go_ret
        have h := hE.out
        rw [List.take_length, hlen, List.take_length] at h
        exact ⟨true, rfl, by simp [h], cg⟩
  · have hne : ((l.length : Int) != l2.length) = true := by rw [bne_iff_ne]; omega
    have hlA := Aside0.mk hlen
    clear hlen
    go_enter Try.func89, Try.ntmps89
    go_wp2
    go_ret
    exact ⟨false, rfl, ⟨fun h => (by cases h), fun h => absurd (congrArg List.length h) hlA.out⟩, cg⟩
theorem same_Fibers (w : World) (A B : Option Addr) (n m ca cb : Nat) (rs qs : List (RB × List RF)) (l l2 : List QB) (h1 : Kd.C kRB w A n (rs.map (·.1))) (h2 : Kd.C kRB w B m (qs.map (·.1))) (e1 : rs.length = l.length) (e2 : qs.length = l2.length) (r1 : ∀ (k : Nat) (z : RB × List RF) (x : QB), rs[k]? = some z → l[k]? = some x → RawB w z.1 z.2 x) (r2 : ∀ (k : Nat) (z : RB × List RF) (x : QB), qs[k]? = some z → l2[k]? = some x → RawB w z.1 z.2 x) :
    Calls Try.prog 65 #[.slice A n ca, .slice B m cb] w (Told (l = l2) w) := by
  have e3 := h1.1
  have e4 := h2.1
  have hb := h1.2.1
  have hb2 := h2.2.1
  rw [List.length_map, e1] at e3
  rw [List.length_map, e2] at e4
  subst e3 e4
  have hCA := Aside0.mk h1
  have hDA := Aside0.mk h2
  have hrA := Aside0.mk r1
  have hqA := Aside0.mk r2
  clear h1 h2 e1 e2 r1 r2
  by_cases hlen : l.length = l2.length
  · go_enter Try.func65, Try.ntmps65
    go_wp2
    go_loopw [5] (fun i wr => ∃ k : Nat, i = .int .i64 k ∧ k ≤ l.length ∧ Aside0 (l.take k = l2.take k) ∧ Aside0 (Chg (fun _ => False) w wr)) (fun i _ => l.length - (intOf i).toNat)
    case atStart => exact ⟨0, rfl, by omega, ⟨rfl⟩, ⟨Chg.refl _ _⟩⟩
    case round =>
      obtain ⟨k, rfl, hk, hE, hCh⟩ := hrel
      by_cases hlt : k < l.length
      · have hlt0 := hlt
        obtain ⟨ad, r, e1, e2, x0⟩ := atRB (l := rs.map (·.1)) (w := wr) cC k hlt
        obtain ⟨bd, q, e3, e4, y0⟩ := atRB (l := qs.map (·.1)) (w := wr) cC k (by omega)
        subst e1 e3
        have hk0 : (0 : Int) ≤ k := by omega
        have hk1 : (k : Int) < l.length := by omega
        have hk2 : (k : Int) < l2.length := by omega
        obtain ⟨x, hx⟩ : ∃ x, l[k]? = some x := ⟨_, List.getElem?_eq_getElem hlt⟩
        obtain ⟨y, hy⟩ : ∃ y, l2[k]? = some y := ⟨_, List.getElem?_eq_getElem (by omega)⟩
        obtain ⟨z, hz, rfl⟩ := pair_at e2
        obtain ⟨u, hu, rfl⟩ := pair_at e4
        have hr := Aside0.mk ((hrA.out k z x hz hx).below (w' := wr) bl)
        have hq := Aside0.mk ((hqA.out k u y hu hy).below (w' := wr) bl)
        have hfr : x = y ↔ x.frames = y.frames := ⟨fun h => (by rw [h]), fun h => (by cases x; cases y; simp only at h; rw [h])⟩
        replace hfr := Aside0.mk hfr
        clear hz hu
        have hxA := Aside0.mk hx
        have hyA := Aside0.mk hy
        have hlenA := Aside0.mk hlen
        clear e2 e4 hx hy hlen
        by_cases hxy : x = y
        · have hxy2 := Aside0.mk hxy
          replace hxy := Aside0.mk hxy
          go_wp2
          go_region_held3 (fun w' => w'.cell? (ad.add k) = some (.slice z.1.frames.1 z.1.frames.2.1 z.1.frames.2.2) ∧ w'.cell? (bd.add k) = some (.slice u.1.frames.1 u.1.frames.2.1 u.1.frames.2.2)) (first | exact ⟨x0, y0⟩ | go_keep | exact ⟨kc, kc⟩) ((go_at_call 89; (refine (told_yes (told_of hfr.out (same_Frames _ _ _ _ _ _ _ z.2 u.2 x.frames y.frames (hr.out.below bl).1 (hq.out.below bl).1 hr.out.2.1 hq.out.2.1 (hr.out.below bl).2.2 (hq.out.below bl).2.2)) hxy.out).mono ?_); (rintro e w3 ⟨rfl, hc3⟩); (replace hc3 := Aside0.mk hc3)))
          go_wp2
          go_roundw
          case measure => first | (simp [intOf]; done) | (simp [intOf]; omega)
          case rel => exact ⟨k + 1, by go_num, by omega, ⟨take_eq_succ hE.out hxA.out (by rw [hxy2.out]; exact hyA.out)⟩, ⟨cg⟩⟩
        · have hno : Aside0 (l ≠ l2) := ⟨fun h => by rw [h, hyA.out] at hxA; exact hxy (Option.some.inj hxA.out).symm⟩
          replace hxy := Aside0.mk hxy
          go_wp2
          go_region_held3 (fun w' => w'.cell? (ad.add k) = some (.slice z.1.frames.1 z.1.frames.2.1 z.1.frames.2.2) ∧ w'.cell? (bd.add k) = some (.slice u.1.frames.1 u.1.frames.2.1 u.1.frames.2.2)) (first | exact ⟨x0, y0⟩ | go_keep | exact ⟨kc, kc⟩) ((go_at_call 89; (refine (told_no (told_of hfr.out (same_Frames _ _ _ _ _ _ _ z.2 u.2 x.frames y.frames (hr.out.below bl).1 (hq.out.below bl).1 hr.out.2.1 hq.out.2.1 (hr.out.below bl).2.2 (hq.out.below bl).2.2)) hxy.out).mono ?_); (rintro e w3 ⟨rfl, hc3⟩); (replace hc3 := Aside0.mk hc3)))
          go_wp2
          go_ret
          exact ⟨false, by simp, ⟨fun h => (by cases h), fun h => absurd h hno.out⟩, cg⟩
      · obtain rfl : k = l.length := by omega
        go_wp2
        go_ret
        have h := hE.out
        rw [List.take_length, hlen, List.take_length] at h
        exact ⟨true, rfl, by simp [h], cg⟩
  · have hne : ((l.length : Int) != l2.length) = true := by rw [bne_iff_ne]; omega
    have hlA := Aside0.mk hlen
    clear hlen
    go_enter Try.func65, Try.ntmps65
    go_wp2
    go_ret
    exact ⟨false, rfl, ⟨fun h => (by cases h), fun h => absurd (congrArg List.length h) hlA.out⟩, cg⟩
end Go.Proofs.Ytdoghjmanogelaa.K

namespace Go.Proofs.Ytdoghjmanogelaa.K
open Go.RowKit Go.Proofs.YtdoghjmanogelaaW.PrintWords Go.Proofs.YtdoghjmanogelaaW.PrintLast Go.Proofs.YtdoghjmanogelaaW.PrintMore
set_option linter.unusedVariables false
set_option linter.unusedSimpArgs false
set_option maxRecDepth 100000
set_option maxHeartbeats 8000000
theorem same_State (w : World) (tA oA bA tA' oA' bA' : Option Addr) (tc oc bc tc' oc' bc' : Nat) (s s' : QS) (ros ros' : List RO) (rbs rbs' : List RB) (L L' : List (List RF)) (h : SView w tA oA bA s ros rbs L) (h' : SView w tA' oA' bA' s' ros' rbs' L') :
    Calls Try.prog 22 #[.agg #[.slice tA s.texts.length tc, .slice oA s.objs.length oc, .slice bA s.fibers.length bc, .int .i64 s.cur, .int .i64 s.steps, .int .i64 s.spent, .int .i64 s.read], .agg #[.slice tA' s'.texts.length tc', .slice oA' s'.objs.length oc', .slice bA' s'.fibers.length bc', .int .i64 s'.cur, .int .i64 s'.steps, .int .i64 s'.spent, .int .i64 s'.read]] w (Told (s = s') w) := by
  obtain ⟨ts, os, bs, c1, s1, p1, r1⟩ := s
  obtain ⟨ts', os', bs', c2, s2, p2, r2⟩ := s'
  have hV := Aside0.mk h
  have hV2 := Aside0.mk h'
  have hrol := Aside0.mk h.os.1
  have hrol' := Aside0.mk h'.os.1
  clear h h'
  simp only at hrol hrol' ⊢
  by_cases h_c1 : c1 = c2
  · subst h_c1
    by_cases h_s1 : s1 = s2
    · subst h_s1
      by_cases h_p1 : p1 = p2
      · subst h_p1
        by_cases h_r1 : r1 = r2
        · subst h_r1
          have B1 : Aside0 ((w.alloc (.cells #[.slice tA ts.length tc, .slice oA os.length oc, .slice bA bs.length bc, .int .i64 c1, .int .i64 s1, .int .i64 p1, .int .i64 r1] 40)).heap[w.heap.size]? = some (.cells #[.slice tA ts.length tc, .slice oA os.length oc, .slice bA bs.length bc, .int .i64 c1, .int .i64 s1, .int .i64 p1, .int .i64 r1] 40)) := ⟨heap_alloc_new w _⟩
          have B2 : Aside0 (((w.alloc (.cells #[.slice tA ts.length tc, .slice oA os.length oc, .slice bA bs.length bc, .int .i64 c1, .int .i64 s1, .int .i64 p1, .int .i64 r1] 40)).alloc (.cells #[.slice tA' ts'.length tc', .slice oA' os'.length oc', .slice bA' bs'.length bc', .int .i64 c1, .int .i64 s1, .int .i64 p1, .int .i64 r1] 40)).heap[w.heap.size + 1]? = some (.cells #[.slice tA' ts'.length tc', .slice oA' os'.length oc', .slice bA' bs'.length bc', .int .i64 c1, .int .i64 s1, .int .i64 p1, .int .i64 r1] 40)) := ⟨heap_alloc2_new w _ _⟩
          by_cases h_t : ts = ts'
          · replace h_t := Aside0.mk h_t
            by_cases h_o : os = os'
            · replace h_o := Aside0.mk h_o
              by_cases h_b : bs = bs'
              · replace h_b := Aside0.mk h_b
                go_enter Try.func22, Try.ntmps22
                go_wp2_with (first | (go_at_call 63; go_must (refine (told_yes (same_Texts _ tA tA' _ _ tc tc' ts ts' (hV.out.below bl).ts (hV2.out.below bl).ts) h_t.out).mono ?_); go_must (rintro e w1 ⟨rfl, hc1⟩); go_must (replace hc1 := Aside0.mk hc1); go_must (have p1_0 : w1.cell? ⟨w.heap.size, 1, none⟩ = some (.slice oA os.length oc) := blk_cell (cs := #[.slice tA ts.length tc, .slice oA os.length oc, .slice bA bs.length bc, .int .i64 c1, .int .i64 s1, .int .i64 p1, .int .i64 r1]) (t := 40) bk 1); go_must (have p1_1 : w1.cell? ⟨w.heap.size + 1, 1, none⟩ = some (.slice oA' os'.length oc') := blk_cell (cs := #[.slice tA' ts'.length tc', .slice oA' os'.length oc', .slice bA' bs'.length bc', .int .i64 c1, .int .i64 s1, .int .i64 p1, .int .i64 r1]) (t := 40) bk 1); go_must (have p1_2 : w1.cell? ⟨w.heap.size, 2, none⟩ = some (.slice bA bs.length bc) := blk_cell (cs := #[.slice tA ts.length tc, .slice oA os.length oc, .slice bA bs.length bc, .int .i64 c1, .int .i64 s1, .int .i64 p1, .int .i64 r1]) (t := 40) bk 2); go_must (have p1_3 : w1.cell? ⟨w.heap.size + 1, 2, none⟩ = some (.slice bA' bs'.length bc') := blk_cell (cs := #[.slice tA' ts'.length tc', .slice oA' os'.length oc', .slice bA' bs'.length bc', .int .i64 c1, .int .i64 s1, .int .i64 p1, .int .i64 r1]) (t := 40) bk 2)) | (go_at_call 64; go_must (refine (told_yes (same_Objects _ oA oA' _ _ oc oc' ros ros' os os' (hV.out.below bl).os (hV2.out.below bl).os hrol.out hrol'.out (hV.out.below bl).ro (hV2.out.below bl).ro) h_o.out).mono ?_); go_must (rintro e w2 ⟨rfl, hc2⟩); go_must (replace hc2 := Aside0.mk hc2); go_must (have p2_0 : w2.cell? ⟨w.heap.size, 2, none⟩ = some (.slice bA bs.length bc) := blk_cell (cs := #[.slice tA ts.length tc, .slice oA os.length oc, .slice bA bs.length bc, .int .i64 c1, .int .i64 s1, .int .i64 p1, .int .i64 r1]) (t := 40) bk 2); go_must (have p2_1 : w2.cell? ⟨w.heap.size + 1, 2, none⟩ = some (.slice bA' bs'.length bc') := blk_cell (cs := #[.slice tA' ts'.length tc', .slice oA' os'.length oc', .slice bA' bs'.length bc', .int .i64 c1, .int .i64 s1, .int .i64 p1, .int .i64 r1]) (t := 40) bk 2)) | (go_at_call 65; go_must (refine (told_yes (same_Fibers _ bA bA' _ _ bc bc' (rbs.zip L) (rbs'.zip L') bs bs' (hV.out.below bl).zip.2.2 (hV2.out.below bl).zip.2.2 (hV.out.below bl).zip.1 (hV2.out.below bl).zip.1 (hV.out.below bl).zip.2.1 (hV2.out.below bl).zip.2.1) h_b.out).mono ?_); go_must (rintro e w3 ⟨rfl, hc3⟩); go_must (replace hc3 := Aside0.mk hc3)))
                go_ret
                exact ⟨true, rfl, ⟨fun _ => (by rw [h_t.out, h_o.out, h_b.out]), fun _ => rfl⟩, cg⟩
              · replace h_b := Aside0.mk h_b
                go_enter Try.func22, Try.ntmps22
                go_wp2_with (first | (go_at_call 63; go_must (refine (told_yes (same_Texts _ tA tA' _ _ tc tc' ts ts' (hV.out.below bl).ts (hV2.out.below bl).ts) h_t.out).mono ?_); go_must (rintro e w1 ⟨rfl, hc1⟩); go_must (replace hc1 := Aside0.mk hc1); go_must (have p1_0 : w1.cell? ⟨w.heap.size, 1, none⟩ = some (.slice oA os.length oc) := blk_cell (cs := #[.slice tA ts.length tc, .slice oA os.length oc, .slice bA bs.length bc, .int .i64 c1, .int .i64 s1, .int .i64 p1, .int .i64 r1]) (t := 40) bk 1); go_must (have p1_1 : w1.cell? ⟨w.heap.size + 1, 1, none⟩ = some (.slice oA' os'.length oc') := blk_cell (cs := #[.slice tA' ts'.length tc', .slice oA' os'.length oc', .slice bA' bs'.length bc', .int .i64 c1, .int .i64 s1, .int .i64 p1, .int .i64 r1]) (t := 40) bk 1); go_must (have p1_2 : w1.cell? ⟨w.heap.size, 2, none⟩ = some (.slice bA bs.length bc) := blk_cell (cs := #[.slice tA ts.length tc, .slice oA os.length oc, .slice bA bs.length bc, .int .i64 c1, .int .i64 s1, .int .i64 p1, .int .i64 r1]) (t := 40) bk 2); go_must (have p1_3 : w1.cell? ⟨w.heap.size + 1, 2, none⟩ = some (.slice bA' bs'.length bc') := blk_cell (cs := #[.slice tA' ts'.length tc', .slice oA' os'.length oc', .slice bA' bs'.length bc', .int .i64 c1, .int .i64 s1, .int .i64 p1, .int .i64 r1]) (t := 40) bk 2)) | (go_at_call 64; go_must (refine (told_yes (same_Objects _ oA oA' _ _ oc oc' ros ros' os os' (hV.out.below bl).os (hV2.out.below bl).os hrol.out hrol'.out (hV.out.below bl).ro (hV2.out.below bl).ro) h_o.out).mono ?_); go_must (rintro e w2 ⟨rfl, hc2⟩); go_must (replace hc2 := Aside0.mk hc2); go_must (have p2_0 : w2.cell? ⟨w.heap.size, 2, none⟩ = some (.slice bA bs.length bc) := blk_cell (cs := #[.slice tA ts.length tc, .slice oA os.length oc, .slice bA bs.length bc, .int .i64 c1, .int .i64 s1, .int .i64 p1, .int .i64 r1]) (t := 40) bk 2); go_must (have p2_1 : w2.cell? ⟨w.heap.size + 1, 2, none⟩ = some (.slice bA' bs'.length bc') := blk_cell (cs := #[.slice tA' ts'.length tc', .slice oA' os'.length oc', .slice bA' bs'.length bc', .int .i64 c1, .int .i64 s1, .int .i64 p1, .int .i64 r1]) (t := 40) bk 2)) | (go_at_call 65; go_must (refine (told_no (same_Fibers _ bA bA' _ _ bc bc' (rbs.zip L) (rbs'.zip L') bs bs' (hV.out.below bl).zip.2.2 (hV2.out.below bl).zip.2.2 (hV.out.below bl).zip.1 (hV2.out.below bl).zip.1 (hV.out.below bl).zip.2.1 (hV2.out.below bl).zip.2.1) h_b.out).mono ?_); go_must (rintro e w3 ⟨rfl, hc3⟩); go_must (replace hc3 := Aside0.mk hc3)))
                go_ret
                exact ⟨false, rfl, ⟨fun h => (by cases h), fun h => (by injection h with _ _ h1; exact absurd h1 h_b.out)⟩, cg⟩
            · replace h_o := Aside0.mk h_o
              go_enter Try.func22, Try.ntmps22
              go_wp2_with (first | (go_at_call 63; go_must (refine (told_yes (same_Texts _ tA tA' _ _ tc tc' ts ts' (hV.out.below bl).ts (hV2.out.below bl).ts) h_t.out).mono ?_); go_must (rintro e w1 ⟨rfl, hc1⟩); go_must (replace hc1 := Aside0.mk hc1); go_must (have p1_0 : w1.cell? ⟨w.heap.size, 1, none⟩ = some (.slice oA os.length oc) := blk_cell (cs := #[.slice tA ts.length tc, .slice oA os.length oc, .slice bA bs.length bc, .int .i64 c1, .int .i64 s1, .int .i64 p1, .int .i64 r1]) (t := 40) bk 1); go_must (have p1_1 : w1.cell? ⟨w.heap.size + 1, 1, none⟩ = some (.slice oA' os'.length oc') := blk_cell (cs := #[.slice tA' ts'.length tc', .slice oA' os'.length oc', .slice bA' bs'.length bc', .int .i64 c1, .int .i64 s1, .int .i64 p1, .int .i64 r1]) (t := 40) bk 1); go_must (have p1_2 : w1.cell? ⟨w.heap.size, 2, none⟩ = some (.slice bA bs.length bc) := blk_cell (cs := #[.slice tA ts.length tc, .slice oA os.length oc, .slice bA bs.length bc, .int .i64 c1, .int .i64 s1, .int .i64 p1, .int .i64 r1]) (t := 40) bk 2); go_must (have p1_3 : w1.cell? ⟨w.heap.size + 1, 2, none⟩ = some (.slice bA' bs'.length bc') := blk_cell (cs := #[.slice tA' ts'.length tc', .slice oA' os'.length oc', .slice bA' bs'.length bc', .int .i64 c1, .int .i64 s1, .int .i64 p1, .int .i64 r1]) (t := 40) bk 2)) | (go_at_call 64; go_must (refine (told_no (same_Objects _ oA oA' _ _ oc oc' ros ros' os os' (hV.out.below bl).os (hV2.out.below bl).os hrol.out hrol'.out (hV.out.below bl).ro (hV2.out.below bl).ro) h_o.out).mono ?_); go_must (rintro e w2 ⟨rfl, hc2⟩); go_must (replace hc2 := Aside0.mk hc2); go_must (have p2_0 : w2.cell? ⟨w.heap.size, 2, none⟩ = some (.slice bA bs.length bc) := blk_cell (cs := #[.slice tA ts.length tc, .slice oA os.length oc, .slice bA bs.length bc, .int .i64 c1, .int .i64 s1, .int .i64 p1, .int .i64 r1]) (t := 40) bk 2); go_must (have p2_1 : w2.cell? ⟨w.heap.size + 1, 2, none⟩ = some (.slice bA' bs'.length bc') := blk_cell (cs := #[.slice tA' ts'.length tc', .slice oA' os'.length oc', .slice bA' bs'.length bc', .int .i64 c1, .int .i64 s1, .int .i64 p1, .int .i64 r1]) (t := 40) bk 2)))
              go_ret
              exact ⟨false, rfl, ⟨fun h => (by cases h), fun h => (by injection h with _ h1; exact absurd h1 h_o.out)⟩, cg⟩
          · replace h_t := Aside0.mk h_t
            go_enter Try.func22, Try.ntmps22
            go_wp2_with ((go_at_call 63; go_must (refine (told_no (same_Texts _ tA tA' _ _ tc tc' ts ts' (hV.out.below bl).ts (hV2.out.below bl).ts) h_t.out).mono ?_); go_must (rintro e w1 ⟨rfl, hc1⟩); go_must (replace hc1 := Aside0.mk hc1); go_must (have p1_0 : w1.cell? ⟨w.heap.size, 1, none⟩ = some (.slice oA os.length oc) := blk_cell (cs := #[.slice tA ts.length tc, .slice oA os.length oc, .slice bA bs.length bc, .int .i64 c1, .int .i64 s1, .int .i64 p1, .int .i64 r1]) (t := 40) bk 1); go_must (have p1_1 : w1.cell? ⟨w.heap.size + 1, 1, none⟩ = some (.slice oA' os'.length oc') := blk_cell (cs := #[.slice tA' ts'.length tc', .slice oA' os'.length oc', .slice bA' bs'.length bc', .int .i64 c1, .int .i64 s1, .int .i64 p1, .int .i64 r1]) (t := 40) bk 1); go_must (have p1_2 : w1.cell? ⟨w.heap.size, 2, none⟩ = some (.slice bA bs.length bc) := blk_cell (cs := #[.slice tA ts.length tc, .slice oA os.length oc, .slice bA bs.length bc, .int .i64 c1, .int .i64 s1, .int .i64 p1, .int .i64 r1]) (t := 40) bk 2); go_must (have p1_3 : w1.cell? ⟨w.heap.size + 1, 2, none⟩ = some (.slice bA' bs'.length bc') := blk_cell (cs := #[.slice tA' ts'.length tc', .slice oA' os'.length oc', .slice bA' bs'.length bc', .int .i64 c1, .int .i64 s1, .int .i64 p1, .int .i64 r1]) (t := 40) bk 2)))
            go_ret
            exact ⟨false, rfl, ⟨fun h => (by cases h), fun h => (by injection h with h1; exact absurd h1 h_t.out)⟩, cg⟩
        · have n_r1 : (r1 != r2) = true := by simpa using h_r1
          have m_r1 : (r1 == r2) = false := by simpa using h_r1
          go_enter Try.func22, Try.ntmps22
          go_wp2
          go_ret
          exact ⟨false, rfl, ⟨fun h => (by cases h), fun h => (by injection h; contradiction)⟩, cg⟩
      · have n_p1 : (p1 != p2) = true := by simpa using h_p1
        have m_p1 : (p1 == p2) = false := by simpa using h_p1
        go_enter Try.func22, Try.ntmps22
        go_wp2
        go_ret
        exact ⟨false, rfl, ⟨fun h => (by cases h), fun h => (by injection h; contradiction)⟩, cg⟩
    · have n_s1 : (s1 != s2) = true := by simpa using h_s1
      have m_s1 : (s1 == s2) = false := by simpa using h_s1
      go_enter Try.func22, Try.ntmps22
      go_wp2
      go_ret
      exact ⟨false, rfl, ⟨fun h => (by cases h), fun h => (by injection h; contradiction)⟩, cg⟩
  · have n_c1 : (c1 != c2) = true := by simpa using h_c1
    have m_c1 : (c1 == c2) = false := by simpa using h_c1
    go_enter Try.func22, Try.ntmps22
    go_wp2
    go_ret
    exact ⟨false, rfl, ⟨fun h => (by cases h), fun h => (by injection h; contradiction)⟩, cg⟩
end Go.Proofs.Ytdoghjmanogelaa.K
