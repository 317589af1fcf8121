import Derived.Test.YtdoghjmanogelaaSg
import Derived.Test.YtdoghjmanogelaaQc
import Derived.Test.YtdoghjmanogelaaWEqStruct
import Derived.IntWalk
import Derived.BigQuiet
import Derived.Deep.RegionHeld3
namespace Go.Proofs.Ytdoghjmanogelaa.K
open Go.RowKit Go.Proofs.YtdoghjmanogelaaW.PrintWords Go.Proofs.YtdoghjmanogelaaW.PrintLast Go.Proofs.YtdoghjmanogelaaW.PrintMore
set_option linter.unusedVariables false
set_option linter.unusedSimpArgs false
set_option maxRecDepth 100000

/-- Told just where it holds. -/
def Told (P : Prop) (w : World) (e : Ending) (w' : World) : Prop := ∃ b : Bool, e = .returned (.bool b) ∧ (b = true ↔ P) ∧ Chg (fun _ => False) w w'
theorem told_yes {prog : Program} {f : Nat} {args : Array Value} {P : Prop} {w : World} (h : Calls prog f args w (Told P w)) (hp : P) : Calls prog f args w fun e w' => e = .returned (.bool true) ∧ Chg (fun _ => False) w w' := h.mono fun e w' ⟨b, he, hb, hc⟩ => ⟨by rw [he, hb.2 hp], hc⟩
theorem told_no {prog : Program} {f : Nat} {args : Array Value} {P : Prop} {w : World} (h : Calls prog f args w (Told P w)) (hp : ¬ P) : Calls prog f args w fun e w' => e = .returned (.bool false) ∧ Chg (fun _ => False) w w' := h.mono fun e w' ⟨b, he, hb, hc⟩ => ⟨by cases b; exact he; exact absurd (hb.1 rfl) hp, hc⟩
theorem take_eq_succ {α : Type} {l m : List α} {k : Nat} {x : α} (h : l.take k = m.take k) (h1 : l[k]? = some x) (h2 : m[k]? = some x) : l.take (k + 1) = m.take (k + 1) := by
  have a := (List.getElem?_eq_some_iff.1 h1)
  have b := (List.getElem?_eq_some_iff.1 h2)
  obtain ⟨a1, a2⟩ := a
  obtain ⟨b1, b2⟩ := b
  rw [List.take_succ_eq_append_getElem a1, List.take_succ_eq_append_getElem b1, h, a2, b2]
theorem eqAQV (d : Nat) (w : World) (x0 y0 : Int) (x1 y1 : Int) :
    (Op.equalIn (d + 2) 56 (.agg #[.int .i64 x0, .int .i64 x1]) (.agg #[.int .i64 y0, .int .i64 y1])).run Try.prog w = .ok (x0 == y0 && (x1 == y1)) w := by
  refine eqA_of Try.underlying56 (by kernel_rfl) ?_
  refine eqf_cons (by rfl) (by go_simp; rfl) (by go_simp; rfl) (by go_simp) ?_
  exact eqf_last (by rfl) (by go_simp; rfl) (by go_simp; rfl) (by go_simp)
attribute [local go_sem high] eqAQV
theorem same_Longs (w : World) (A B : Option Addr) (n m ca cb : Nat) (l l2 : List Int) (h1 : Kd.C (Kd.int .i64) w A n l) (h2 : Kd.C (Kd.int .i64) w B m l2) :
    Calls Try.prog 101 #[.slice A n ca, .slice B m cb] w (Told (l = l2) w) := by
  have e1 := h1.1
  have e2 := h2.1
  have hb := h1.2.1
  have hb2 := h2.2.1
  subst e1 e2
  have hCA := Aside0.mk h1
  have hDA := Aside0.mk h2
  clear h1 h2
  by_cases hlen : l.length = l2.length
  · go_enter Try.func101, Try.ntmps101
    go_wp2
    go_loopw [5] (fun i wr => ∃ k : Nat, i = .int .i64 k ∧ k ≤ l.length ∧ Aside0 (l.take k = l2.take k) ∧ Aside0 (Chg (fun _ => False) w wr)) (fun i _ => l.length - (intOf i).toNat)
    case atStart => exact ⟨0, rfl, by omega, ⟨rfl⟩, ⟨Chg.refl _ _⟩⟩
    case round =>
      obtain ⟨k, rfl, hk, hE, hCh⟩ := hrel
      by_cases hlt : k < l.length
      · obtain ⟨ad, x, e1, e2, x0⟩ := i64_at (l := l) (w := wr) cC k hlt
        obtain ⟨bd, y, e3, e4, y0⟩ := i64_at (l := l2) (w := wr) cC k (by omega)
        subst e1 e3
        have hk0 : (0 : Int) ≤ k := by omega
        have hk1 : (k : Int) < l.length := by omega
        have hk2 : (k : Int) < l2.length := by omega
        have e2A := Aside0.mk e2
        have e4A := Aside0.mk e4
        have hlenA := Aside0.mk hlen
        clear e2 e4 hlen
        by_cases hxy : x = y
        · subst hxy
          go_wp2
          (try go_quiet (fail))
          (try go_wp2)
          go_roundw
          case measure => first | (simp [intOf]; done) | (simp [intOf]; omega)
          case rel => exact ⟨k + 1, by go_num, by omega, ⟨take_eq_succ hE.out e2A.out e4A.out⟩, ⟨cg⟩⟩
        · have hq : (x != y) = true := by simpa using hxy
          have hno : Aside0 (l ≠ l2) := ⟨fun h => by rw [h, e4A.out] at e2A; exact hxy (Option.some.inj e2A.out).symm⟩
          clear hxy
          go_wp2
          (try go_quiet (fail))
          (try go_wp2)
          go_ret
          exact ⟨false, by simp, ⟨fun h => (by cases h), fun h => absurd h hno.out⟩, cg⟩
      · obtain rfl : k = l.length := by omega
        go_wp2
        go_ret
        have h := hE.out
        rw [List.take_length, hlen, List.take_length] at h
        exact ⟨true, rfl, by simp [h], cg⟩
  · have hne : ((l.length : Int) != l2.length) = true := by rw [bne_iff_ne]; omega
    have hlA := Aside0.mk hlen
    clear hlen
    go_enter Try.func101, Try.ntmps101
    go_wp2
    go_ret
    exact ⟨false, rfl, ⟨fun h => (by cases h), fun h => absurd (congrArg List.length h) hlA.out⟩, cg⟩
theorem same_Texts (w : World) (A B : Option Addr) (n m ca cb : Nat) (l l2 : List ByteArray) (h1 : Kd.C Kd.string w A n l) (h2 : Kd.C Kd.string w B m l2) :
    Calls Try.prog 63 #[.slice A n ca, .slice B m cb] w (Told (l = l2) w) := by
  have e1 := h1.1
  have e2 := h2.1
  have hb := h1.2.1
  have hb2 := h2.2.1
  subst e1 e2
  have hCA := Aside0.mk h1
  have hDA := Aside0.mk h2
  clear h1 h2
  by_cases hlen : l.length = l2.length
  · go_enter Try.func63, Try.ntmps63
    go_wp2
    go_loopw [5] (fun i wr => ∃ k : Nat, i = .int .i64 k ∧ k ≤ l.length ∧ Aside0 (l.take k = l2.take k) ∧ Aside0 (Chg (fun _ => False) w wr)) (fun i _ => l.length - (intOf i).toNat)
    case atStart => exact ⟨0, rfl, by omega, ⟨rfl⟩, ⟨Chg.refl _ _⟩⟩
    case round =>
      obtain ⟨k, rfl, hk, hE, hCh⟩ := hrel
      by_cases hlt : k < l.length
      · obtain ⟨ad, x, e1, e2, x0⟩ := str_at (l := l) (w := wr) cC k hlt
        obtain ⟨bd, y, e3, e4, y0⟩ := str_at (l := l2) (w := wr) cC k (by omega)
        subst e1 e3
        have hk0 : (0 : Int) ≤ k := by omega
        have hk1 : (k : Int) < l.length := by omega
        have hk2 : (k : Int) < l2.length := by omega
        have e2A := Aside0.mk e2
        have e4A := Aside0.mk e4
        have hlenA := Aside0.mk hlen
        clear e2 e4 hlen
        by_cases hxy : x = y
        · subst hxy
          go_wp2
          (try go_quiet (fail))
          (try go_wp2)
          go_roundw
          case measure => first | (simp [intOf]; done) | (simp [intOf]; omega)
          case rel => exact ⟨k + 1, by go_num, by omega, ⟨take_eq_succ hE.out e2A.out e4A.out⟩, ⟨cg⟩⟩
        · have hq : (x.toList == y.toList) = false := by rw [ba_beqQ]; simpa using hxy
          have hno : Aside0 (l ≠ l2) := ⟨fun h => by rw [h, e4A.out] at e2A; exact hxy (Option.some.inj e2A.out).symm⟩
          clear hxy
          go_wp2
          (try go_quiet (fail))
          (try go_wp2)
          go_ret
          exact ⟨false, by simp, ⟨fun h => (by cases h), fun h => absurd h hno.out⟩, cg⟩
      · obtain rfl : k = l.length := by omega
        go_wp2
        go_ret
        have h := hE.out
        rw [List.take_length, hlen, List.take_length] at h
        exact ⟨true, rfl, by simp [h], cg⟩
  · have hne : ((l.length : Int) != l2.length) = true := by rw [bne_iff_ne]; omega
    have hlA := Aside0.mk hlen
    clear hlen
    go_enter Try.func63, Try.ntmps63
    go_wp2
    go_ret
    exact ⟨false, rfl, ⟨fun h => (by cases h), fun h => absurd (congrArg List.length h) hlA.out⟩, cg⟩
theorem same_Values (w : World) (A B : Option Addr) (n m ca cb : Nat) (l l2 : List QV) (h1 : Kd.C kQV w A n l) (h2 : Kd.C kQV w B m l2) :
    Calls Try.prog 100 #[.slice A n ca, .slice B m cb] w (Told (l = l2) w) := by
  have e1 := h1.1
  have e2 := h2.1
  have hb := h1.2.1
  have hb2 := h2.2.1
  subst e1 e2
  have hCA := Aside0.mk h1
  have hDA := Aside0.mk h2
  clear h1 h2
  by_cases hlen : l.length = l2.length
  · go_enter Try.func100, Try.ntmps100
    go_wp2
    go_loopw [5] (fun i wr => ∃ k : Nat, i = .int .i64 k ∧ k ≤ l.length ∧ Aside0 (l.take k = l2.take k) ∧ Aside0 (Chg (fun _ => False) w wr)) (fun i _ => l.length - (intOf i).toNat)
    case atStart => exact ⟨0, rfl, by omega, ⟨rfl⟩, ⟨Chg.refl _ _⟩⟩
    case round =>
      obtain ⟨k, rfl, hk, hE, hCh⟩ := hrel
      by_cases hlt : k < l.length
      · obtain ⟨ad, xk, xn, e1, e2, x0, x1⟩ := kQV_at (l := l) (w := wr) cC k hlt
        obtain ⟨bd, yk, yn, e3, e4, y0, y1⟩ := kQV_at (l := l2) (w := wr) cC k (by omega)
        subst e1 e3
        have hk0 : (0 : Int) ≤ k := by omega
        have hk1 : (k : Int) < l.length := by omega
        have hk2 : (k : Int) < l2.length := by omega
        have e2A := Aside0.mk e2
        have e4A := Aside0.mk e4
        have hlenA := Aside0.mk hlen
        clear e2 e4 hlen
        by_cases hxk : xk = yk
        · subst hxk
          by_cases hxy : xn = yn
          · subst hxy
            go_wp2
            (try go_quiet (fail))
            (try go_wp2)
            go_roundw
            case measure => first | (simp [intOf]; done) | (simp [intOf]; omega)
            case rel => exact ⟨k + 1, by go_num, by omega, ⟨take_eq_succ hE.out e2A.out e4A.out⟩, ⟨cg⟩⟩
          · have hq : (xn == yn) = false := by simpa using hxy
            have hq2 : (xn != yn) = true := by simpa using hxy
            have hno : Aside0 (l ≠ l2) := ⟨fun h => by rw [h, e4A.out] at e2A; have h9 := Option.some.inj e2A.out; injection h9 with h8 h7; exact hxy h7.symm⟩
            clear hxy
            go_wp2
            (try go_quiet (fail))
            (try go_wp2)
            go_ret
            exact ⟨false, by simp, ⟨fun h => (by cases h), fun h => absurd h hno.out⟩, cg⟩
        · have hq : (xk == yk) = false := by simpa using hxk
          have hq2 : (xk != yk) = true := by simpa using hxk
          have hno : Aside0 (l ≠ l2) := ⟨fun h => by rw [h, e4A.out] at e2A; have h9 := Option.some.inj e2A.out; injection h9 with h8 h7; exact hxk h8.symm⟩
          clear hxk
          go_wp2
          (try go_quiet (fail))
          (try go_wp2)
          go_ret
          exact ⟨false, by simp, ⟨fun h => (by cases h), fun h => absurd h hno.out⟩, cg⟩
      · obtain rfl : k = l.length := by omega
        go_wp2
        go_ret
        have h := hE.out
        rw [List.take_length, hlen, List.take_length] at h
        exact ⟨true, rfl, by simp [h], cg⟩
  · have hne : ((l.length : Int) != l2.length) = true := by rw [bne_iff_ne]; omega
    have hlA := Aside0.mk hlen
    clear hlen
    go_enter Try.func100, Try.ntmps100
    go_wp2
    go_ret
    exact ⟨false, rfl, ⟨fun h => (by cases h), fun h => absurd (congrArg List.length h) hlA.out⟩, cg⟩
end Go.Proofs.Ytdoghjmanogelaa.K
