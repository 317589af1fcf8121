import Derived.Test.YthmghcjkmmhgnaaEa
import Derived.BigQuiet
import Derived.IntWalk
import Derived.Deep.RegionHeld3
namespace Go.Proofs.Ythmghcjkmmhgnaa.K
open Go.RowKit Go.Proofs.YthmghcjkmmhgnaaW.PrintWords Go.Proofs.YthmghcjkmmhgnaaW.PrintLast Go.Proofs.YthmghcjkmmhgnaaW.PrintMore
set_option linter.unusedVariables false
set_option linter.unusedSimpArgs false
set_option maxRecDepth 100000

def encGo : List Instr → List Int → List Int × Int
  | [], acc => (acc, 0)
  | i :: l, acc => if efP i.op i.a = true then encGo l (acc ++ putP i.op i.a) else ([], 7)
/-- A list of instructions as bytes, or the error. -/
def encP (l : List Instr) : List Int × Int := if 2000 < l.length then ([], 5) else encGo l []
theorem right_facts {kd a : Int} (h0 : 0 ≤ kd) (h8 : kd ≤ 8) (h : rightP kd a = true) : (kd ≠ 1 → 0 ≤ a) ∧ (kd = 0 → a = 0) := by
  unfold rightP at h
  split at h
  · omega
  split at h
  · simp at h; omega
  split at h
  · simp at h; omega
  · simp at h
    unfold limP at h
    refine ⟨by omega, fun e => ?_⟩
    subst e
    simp at h
    omega
theorem ef_facts {op a : Int} (h : efP op a = true) : (0 ≤ op ∧ op < 67) ∧ ((rowP op).kind ≠ 1 → 0 ≤ a) ∧ ((rowP op).kind = 0 → a = 0) := by
  unfold efP at h
  rw [Bool.and_eq_true] at h
  obtain ⟨h1, h2⟩ := h
  obtain ⟨b0, b1, _⟩ := rowP_bounds op
  exact ⟨by unfold okP at h1; simpa using h1, right_facts b0 b1 h2⟩
theorem instr_mem {l : List Instr} {k : Nat} {op a : Int} (h : l[k]? = some ⟨op, a⟩) : (⟨op, a⟩ : Instr) ∈ l := List.mem_of_getElem? h
theorem drop_get {l : List Instr} {k : Nat} {x : Instr} (h : l[k]? = some x) : l.drop k = x :: l.drop (k + 1) := by
  obtain ⟨hk, e⟩ := List.getElem?_eq_some_iff.1 h
  rw [List.drop_eq_getElem_cons hk, e]
theorem cell_chg {w w' : World} {p : Addr} {v : Value} (hc : Chg (fun _ => False) w w') (h : w.cell? p = some v) : w'.cell? p = some v := by
  have hb := World.block_lt_of_cell? w p h
  have hk := hc.block p.block hb (fun h => h)
  simpa [World.cell?, hk] using h
theorem new_new {α : Type} {d : Kd α} {e : Nat} {w W W' : World} {v : Value} {xs : List α} (h0 : Chg (fun _ => False) w W) (hr : d.R e W' 0 (New (New (fun _ => False) w W) W W') v xs) (hc : Chg (New (fun _ => False) w W) W W') :
    d.R e W' 0 (New (fun _ => False) w W') v xs ∧ Chg (fun _ => False) w W' := by
  have z0 := h0.size
  have z1 := hc.size
  refine ⟨Kd.R_mono hr (fun k hk => ?_), h0.trans hc (fun i hi h => ?_)⟩
  · rcases hk with (h | h) | h
    · exact h.elim
    · exact .inr ⟨h.1, by omega⟩
    · exact .inr ⟨by omega, h.2⟩
  · rcases h with h | h
    · exact h.elim
    · omega
theorem ref_Encode (w : World) (A : Option Addr) (n cap : Nat) (l : List Instr) (hC : Kd.C kInstr w A n l) (hl : ∀ i ∈ l, -9223372036854775808 ≤ i.a ∧ i.a ≤ 9223372036854775807) (hn : l.length ≤ 8796093022208) :
    Calls Try.prog 42 #[.slice A n cap] w fun e w' => ∃ v, e = .returned (.tuple #[v, .int .i64 (encP l).2]) ∧ Kd.R (Kd.int .u8) 5 w' 0 (New (fun _ => False) w w') v (encP l).1 ∧ Chg (fun _ => False) w w' := by
  have e0 := hC.1
  subst e0
  have hCA := Aside0.mk hC
  have hlA := Aside0.mk hl
  clear hC hl
  by_cases hbig : 2000 < l.length
  · have hE : Aside0 (encP l = ([], 5)) := ⟨by unfold encP; rw [if_pos hbig]⟩
    have d0 : decide (2000 < l.length) = true := by simpa using hbig
    have d1 : decide ((2000 : Int) < (l.length : Int)) = true := by simp; omega
    go_enter Try.func42, Try.ntmps42
    go_wp2
    go_ret2
    rw [hE.out]
    exact ⟨_, rfl, Kd.R_nil _ _ _ _ _, Chg.refl _ _⟩
  · have hE : Aside0 (encP l = encGo l []) := ⟨by unfold encP; rw [if_neg hbig]⟩
    have d0 : decide (2000 < l.length) = false := by simpa using hbig
    have d1 : decide ((2000 : Int) < (l.length : Int)) = false := by simp; omega
    go_enter Try.func42, Try.ntmps42
    go_wp2
    go_loopw [4, 5] (fun v i wr => ∃ (k : Nat) (cur : List Int), i = .int .i64 k ∧ k ≤ l.length ∧ Aside0 (Kd.R (Kd.int .u8) 5 wr 0 (New (fun _ => False) w wr) v cur) ∧ Aside0 (encGo (l.drop k) cur = encGo l [] ∧ cur.length ≤ 11 * k) ∧ Aside0 (Chg (fun _ => False) w wr)) (fun _ i _ => l.length - (intOf i).toNat)
    case atStart => exact ⟨0, [], rfl, by omega, ⟨Kd.R_nil _ _ _ _ _⟩, ⟨by simp, by simp⟩, ⟨Chg.refl _ _⟩⟩
    case round =>
      obtain ⟨k, cur, rfl, hk, hR, hG, hCh⟩ := hrel
      obtain ⟨A0, n0, c0, rfl⟩ := R_sl hR.out
      by_cases hlt : k < l.length
      · obtain ⟨ad, op, a, e1, e2, x0, x1⟩ := instr_at (C_chg hCA.out (hCh.out.below (fun _ _ h => h))) k hlt
        subst e1
        have hk0 : (0 : Int) ≤ k := by omega
        have hk1 : (k : Int) < l.length := by omega
        obtain ⟨a0, a1⟩ := hlA.out _ (instr_mem e2)
        simp only at a0 a1
        have hstep : Aside0 (encGo (l.drop k) cur = if efP op a = true then encGo (l.drop (k + 1)) (cur ++ putP op a) else ([], 7)) := ⟨by rw [drop_get e2, encGo]⟩
        have hck : Aside0 (∀ W, Calls Try.prog 34 #[.agg #[.int .i64 op, .int .i64 a]] W fun e w' => e = .returned (.int .i64 (if efP op a = true then 0 else 7)) ∧ Chg (fun _ => False) W w') := ⟨fun W => ref_Check W op a⟩
        clear e2
        cases hef : efP op a
        · rw [hef] at hck hstep
          have hfin : Aside0 (encGo l [] = ([], 7)) := ⟨by rw [← hG.out.1, hstep.out]; rfl⟩
          replace hck : Aside0 (∀ W, Calls Try.prog 34 #[.agg #[.int .i64 op, .int .i64 a]] W fun e w' => e = .returned (.int .i64 7) ∧ Chg (fun _ => False) W w') := ⟨hck.out⟩
          clear hef hstep
          go_wp2_with (go_at_call 34; go_must (refine (hck.out _).mono ?_); go_must (rintro e w1 ⟨rfl, hc1⟩); go_must (replace hc1 := Aside0.mk (hCh.out.trans hc1 (fun _ _ h => h))))
          go_ret2
          rw [hE.out, hfin.out]
          exact ⟨_, rfl, Kd.R_nil _ _ _ _ _, hc1.out⟩
        · rw [hef] at hck hstep
          obtain ⟨g1, g2, g3⟩ := ef_facts hef
          have hnext : Aside0 (encGo (l.drop (k + 1)) (cur ++ putP op a) = encGo l [] ∧ (cur ++ putP op a).length ≤ 11 * (k + 1)) := ⟨by rw [← hG.out.1, hstep.out]; rfl, by have := putP_length op a; have := hG.out.2; simp; omega⟩
          have hlen : Aside0 (cur.length < 140737488354000) := ⟨by have := hG.out.2; omega⟩
          replace hck : Aside0 (∀ W, Calls Try.prog 34 #[.agg #[.int .i64 op, .int .i64 a]] W fun e w' => e = .returned (.int .i64 0) ∧ Chg (fun _ => False) W w') := ⟨hck.out⟩
          have hput : Aside0 (∀ W v, Kd.R (Kd.int .u8) 5 W 0 (New (fun _ => False) w W) v cur → Calls Try.prog 60 #[v, .agg #[.int .i64 op, .int .i64 a]] W fun e w' => ∃ v', e = .returned v' ∧ Kd.R (Kd.int .u8) 5 w' 0 (New (New (fun _ => False) w W) W w') v' (cur ++ putP op a) ∧ Chg (New (fun _ => False) w W) W w') :=
            ⟨fun W v hv => ref_Put W _ v cur op a hv g1.1 (by omega) a0 a1 (fun z _ => g2 z) hlen.out⟩
          generalize putP op a = pp at hnext hput
          clear hef hstep g1 g2 g3 a0 a1
          go_wp2_with (first | (go_at_call 34; go_must (refine (hck.out _).mono ?_); go_must (rintro e w1 ⟨rfl, hc1⟩); go_must (have y0 : w1.cell? (ad.add (k * 2)) = some (.int .i64 op) := cell_chg hc1 x0); go_must (have y1 : w1.cell? ⟨(ad.add (k * 2)).block, (ad.add (k * 2)).off + 1, none⟩ = some (.int .i64 a) := cell_chg hc1 x1); go_must (have hR1 := Aside0.mk (Kd.R_mono (R_chg hR.out hc1 (fun _ _ _ h => h)) (New.lift hc1.size))); go_must (replace hc1 := Aside0.mk (hCh.out.trans hc1 (fun _ _ h => h)))) | (go_at_call 60; go_must (refine (hput.out _ _ hR1.out).mono ?_); go_must (rintro e w2 ⟨v2, rfl, hr2, hc2⟩); go_must (obtain ⟨A2, n2, cap2, rfl⟩ := R_sl hr2); go_must (replace hr2 := Aside0.mk hr2); go_must (replace hc2 := Aside0.mk hc2)))
          go_roundw
          case measure => first | (simp [intOf]; done) | (simp [intOf]; omega)
          case rel =>
            obtain ⟨q1, q2⟩ := new_new hc1.out hr2.out hc2.out
            exact ⟨k + 1, _, by go_num, by omega, ⟨q1⟩, hnext, ⟨q2⟩⟩
      · obtain rfl : k = l.length := by omega
        have hfin : Aside0 (encGo l [] = (cur, 0)) := ⟨by rw [← hG.out.1, List.drop_length]; rfl⟩
        go_wp2
        go_ret2
        rw [hE.out, hfin.out]
        exact ⟨_, rfl, hR.out, hCh.out⟩

end Go.Proofs.Ythmghcjkmmhgnaa.K
