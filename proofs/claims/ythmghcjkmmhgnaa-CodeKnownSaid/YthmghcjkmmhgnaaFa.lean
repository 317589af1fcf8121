import Derived.Test.YthmghcjkmmhgnaaEd
import Derived.BigQuiet
import Derived.IntWalk
namespace Go.Proofs.Ythmghcjkmmhgnaa.K
open Go.RowKit Go.Proofs.YthmghcjkmmhgnaaW.PrintWords Go.Proofs.YthmghcjkmmhgnaaW.PrintLast Go.Proofs.YthmghcjkmmhgnaaW.PrintMore
set_option linter.unusedVariables false
set_option linter.unusedSimpArgs false
set_option maxRecDepth 100000

def aOf (kind x : Int) : Int := if kind = 1 then unfoldI x else min x 9223372036854775807
/-- The instruction whose form stands there. -/
def nextP (bs : List Int) (i : Nat) : Except Int (Instr × Nat) :=
  if okP (bs.getD i 0) = true then
    if (rowP (bs.getD i 0)).kind = 0 then .ok (⟨bs.getD i 0, 0⟩, i + 1)
    else match pNum bs (i + 1) with
      | .error c => .error c
      | .ok (x, j) => if rightP (rowP (bs.getD i 0)).kind (aOf (rowP (bs.getD i 0)).kind x) = true then .ok (⟨bs.getD i 0, aOf (rowP (bs.getD i 0)).kind x⟩, j) else .error 7
  else .error 7
def decGo (bs : List Int) : Nat → Nat → List Instr → List Instr × Int
  | 0, _, acc => (acc, 0)
  | f + 1, i, acc => if i < bs.length then (if acc.length = 2000 then ([], 5) else match nextP bs i with
      | .error c => ([], c)
      | .ok (x, j) => decGo bs f j (acc ++ [x])) else (acc, 0)
/-- The list that these bytes are, or the error. -/
def decP (bs : List Int) : List Instr × Int := decGo bs (bs.length + 1) 0 []
theorem aOf_range {kind x : Int} (h0 : 0 ≤ x) (h1 : x ≤ 18446744073709551615) : -9223372036854775808 ≤ aOf kind x ∧ aOf kind x ≤ 9223372036854775807 := by
  unfold aOf unfoldI
  split
  · split <;> omega
  · omega
theorem form_r1 (w : World) (F : Nat → Prop) (g i : Nat) (bs : List Int) (err : Int) (hw : Rd w F g bs i err) :
    Calls Try.prog 69 #[.pointer (some ⟨g, 0, none⟩)] w fun e w' => e = .returned (.int .i64 (min (rrun (pNum bs) 0 i err).1 9223372036854775807)) ∧ Rd w' F g bs (rrun (pNum bs) 0 i err).2.1 (rrun (pNum bs) 0 i err).2.2 ∧ Chg (fun k => k = g) w w' := by
  have hby : ∀ c ∈ bs, 0 ≤ c ∧ c < 256 := by obtain ⟨_, _, _, _, _, _, h, _⟩ := hw; exact h
  obtain ⟨x0, x1⟩ := rr_num hby i err
  have hW := Aside0.mk hw
  clear hw hby
  generalize hx : (rrun (pNum bs) 0 i err).1 = x at x0 x1 ⊢
  have hxA := Aside0.mk hx
  clear hx
  by_cases hle : x ≤ 9223372036854775807
  · have hm : min x 9223372036854775807 = x := by omega
    have u1 : IntKind.i64.wrap x = x := by simp [IntKind.wrap, IntKind.bits, IntKind.signed]; omega
    go_enter Try.func69, Try.ntmps69
    go_wp2_with (go_at_call 70; go_must (refine (rd_Uint _ F g i bs err hW.out).mono ?_); go_must (rintro e w1 ⟨rfl, hR1, hc1⟩); go_must (rw [hxA.out]); go_must (replace hR1 := Aside0.mk hR1); go_must (replace hc1 := Aside0.mk hc1))
    go_ret
    exact ⟨by rw [hm]; rfl, hR1.out, hc1.out⟩
  · have hm : min x 9223372036854775807 = 9223372036854775807 := by omega
    have u1 : IntKind.i64.wrap 9223372036854775807 = 9223372036854775807 := by decide
    go_enter Try.func69, Try.ntmps69
    go_wp2_with (go_at_call 70; go_must (refine (rd_Uint _ F g i bs err hW.out).mono ?_); go_must (rintro e w1 ⟨rfl, hR1, hc1⟩); go_must (rw [hxA.out]); go_must (replace hR1 := Aside0.mk hR1); go_must (replace hc1 := Aside0.mk hc1))
    go_ret
    exact ⟨by rw [hm]; rfl, hR1.out, hc1.out⟩
theorem form_r6 (w : World) (g : Nat) : Calls Try.prog 79 #[.pointer (some ⟨g, 0, none⟩)] w fun e w' => e = .returned (.int .i64 0) ∧ w' = w := by
  go_enter Try.func79, Try.ntmps79
  go_wp2
  go_ret
  exact ⟨rfl, rfl⟩
def RdOK (f : FuncId) (bs : List Int) (i : Nat) (val : Int) (i' : Nat) (er : Int) : Prop := ∀ W F g, Rd W F g bs i 0 → Calls Try.prog f #[.pointer (some ⟨g, 0, none⟩)] W fun e W' => e = .returned (.int .i64 val) ∧ Rd W' F g bs i' er ∧ Chg (fun k => k = g) W W'
theorem code_formR (w : World) (kind : Int) (f : FuncId) (hf : rdF kind = f) (h0 : 0 ≤ kind) (h8 : kind ≤ 8) : Calls Try.prog 51 #[.int .u8 kind] w fun e w' => ∃ y v, e = .returned (.agg #[.func (.func f) #[] #[], .func (.func y) #[] #[], v]) ∧ RtOK w w' kind v ∧ Chg (fun _ => False) w w' :=
  (code_formOf w kind h0 h8).mono fun e w' ⟨v, he, hr, hc⟩ => ⟨wrF kind, v, by subst hf; exact he, hr, hc⟩
/-- Where decoding stands: the reader, the list so far, what has turned. -/
def DSt (w w' : World) (b gr : Nat) (bs : List Int) (i : Nat) (er : Int) (F : Nat → Prop) (v : Value) (acc : List Instr) : Prop :=
  Rd w' (fun k => w.heap.size ≤ k ∧ k < b) gr bs i er ∧ Kd.R kInstr 35 w' 0 F v acc ∧ Chg (fun _ => False) w w' ∧ b ≤ w'.heap.size ∧ w.heap.size ≤ b ∧ (w.heap.size ≤ gr ∧ gr < b) ∧ ∀ k, F k → b ≤ k
theorem DSt.quiet {w w1 w2 : World} {b gr i : Nat} {bs : List Int} {er : Int} {F : Nat → Prop} {v : Value} {acc : List Instr} (h : DSt w w1 b gr bs i er F v acc) (hc : Chg (fun _ => False) w1 w2) : DSt w w2 b gr bs i er F v acc := by
  obtain ⟨h1, h2, h3, h4, h5, h6, h7⟩ := h
  exact ⟨h1.chg hc (fun _ _ _ h => h), R_chg h2 hc (fun _ _ _ h => h), h3.trans hc (fun _ _ h => h), Nat.le_trans h4 hc.size, h5, h6, h7⟩
theorem DSt.read {w w1 w2 : World} {b gr i i' : Nat} {bs : List Int} {er er' : Int} {F : Nat → Prop} {v : Value} {acc : List Instr} (h : DSt w w1 b gr bs i er F v acc) (hc : Chg (fun k => k = gr) w1 w2) (hr : Rd w2 (fun k => w.heap.size ≤ k ∧ k < b) gr bs i' er') : DSt w w2 b gr bs i' er' F v acc := by
  obtain ⟨h1, h2, h3, h4, h5, h6, h7⟩ := h
  exact ⟨hr, R_chg h2 hc (fun k _ hk e => by have := h7 k hk; omega), h3.trans hc (fun k hk e => by omega), Nat.le_trans h4 hc.size, h5, h6, h7⟩
theorem DSt.turn {w w1 w2 : World} {b gr i N : Nat} {bs : List Int} {er : Int} {F : Nat → Prop} {v : Value} {acc : List Instr} (h : DSt w w1 b gr bs i er F v acc) (hN : b ≤ N) (hF : ¬ F N) (hc : Chg (fun k => k = N) w1 w2) : DSt w w2 b gr bs i er F v acc := by
  obtain ⟨h1, h2, h3, h4, h5, h6, h7⟩ := h
  exact ⟨h1.chg hc (fun k _ hk e => by omega), R_chg h2 hc (fun k _ hk e => hF (e ▸ hk)), h3.trans hc (fun k hk e => by omega), Nat.le_trans h4 hc.size, h5, h6, h7⟩
theorem keep_blk {w1 w2 : World} {gr b M : Nat} {o : Obj} (hb : w1.heap[M]? = some o) (hM : b ≤ M) (hg : gr < b) (hc : Chg (fun k => k = gr) w1 w2) : w2.heap[M]? = some o := hc.blk hb (by omega)
theorem chgQ {w w' : World} (h : Drawn0 w w') : Chg (fun _ => False) w w' := chg_drawn0 h

theorem dec_byte {w w1 w2 : World} {b gr i : Nat} {bs : List Int} {F : Nat → Prop} {v : Value} {acc : List Instr} {e : Ending} (h : DSt w w1 b gr bs i 0 F v acc) (hi : i < bs.length) (hr : ResM (Value.int .u8) w1 (fun k => w.heap.size ≤ k ∧ k < b) gr bs (rrun (pNext bs) 0 i 0) e w2) :
    e = .returned (.int .u8 (bs.getD i 0)) ∧ DSt w w2 b gr bs (i + 1) 0 F v acc ∧ Chg (fun k => k = gr) w1 w2 := by
  have e1 : rrun (pNext bs) 0 i 0 = (bs.getD i 0, i + 1, 0) := by simp [rrun, pNext, hi]
  rw [e1] at hr
  exact ⟨hr.1, h.read hr.2.2 hr.2.1, hr.2.2⟩
theorem dec_s3 {w w1 w4 : World} {b gr i : Nat} {bs : List Int} {F : Nat → Prop} {v : Value} {acc : List Instr} {cs : Array Value} {t : TypeId} (h : DSt w w1 b gr bs i 0 F v acc) (hc : Chg (fun _ => False) (w1.alloc (.cells cs t)) w4) :
    DSt w w4 b gr bs i 0 F v acc ∧ w4.heap[w1.heap.size]? = some (.cells cs t (0, 0)) ∧ b ≤ w1.heap.size ∧ w1.heap.size < w4.heap.size := by
  have hb := hc.blk (heap_alloc_new w1 (.cells cs t)) (fun h => h)
  exact ⟨(h.quiet ((Chg.refl _ w1).alloc _)).quiet hc, hb, h.2.2.2.1, blk_lt hb⟩
theorem dec_s6 {w w4 w6 : World} {b gr i N : Nat} {bs : List Int} {F : Nat → Prop} {v : Value} {acc : List Instr} {cs : Array Value} {t : TypeId} {o : Obj} (h : DSt w w4 b gr bs i 0 F v acc) (hbx : w4.heap[N]? = some o) (hc : Chg (fun _ => False) (w4.alloc (.cells cs t)) w6) :
    DSt w w6 b gr bs i 0 F v acc ∧ w6.heap[N]? = some o ∧ N < w6.heap.size :=
  ⟨(h.quiet ((Chg.refl _ w4).alloc _)).quiet hc, hc.blk (heap_alloc_old3 _ _ hbx) (fun h => h), blk_lt (hc.blk (heap_alloc_old3 _ _ hbx) (fun h => h))⟩
theorem dec_s7 {w w6 W7 : World} {b gr i N : Nat} {bs : List Int} {F : Nat → Prop} {v : Value} {acc : List Instr} {A cs : Array Value} {t : TypeId} {o : Obj} (h : DSt w w6 b gr bs i 0 F v acc) (hbx : w6.heap[N]? = some o) (h7 : (w6.alloc (.cells A t)).setRow w6.heap.size cs = W7) :
    DSt w W7 b gr bs i 0 F v acc ∧ W7.heap[N]? = some o ∧ W7.heap[w6.heap.size]? = some (.cells cs t (0, 0)) ∧ Chg (fun _ => False) w6 W7 := by
  have hc : Chg (fun _ => False) w6 W7 := by rw [← h7]; exact ((Chg.refl _ w6).alloc _).setRow (fun h => by omega) _
  refine ⟨h.quiet hc, hc.blk hbx (fun h => h), ?_, hc⟩
  rw [← h7]
  exact setRow_heap _ _ _ _ _ _ (heap_alloc_new w6 _)
theorem dec_s9 {w w8 W9 : World} {b gr i N M : Nat} {bs : List Int} {er : Int} {F : Nat → Prop} {v : Value} {acc : List Instr} {t s : TypeId} {x y z : Value} {cs : Array Value} (h : DSt w w8 b gr bs i er F v acc) (hN : b ≤ N) (hF : ∀ k, F k → k < N) (hNM : N < M) (hbx : w8.heap[N]? = some (.cells #[x, y] t (0, 0))) (hfm : w8.heap[M]? = some (.cells cs s (0, 0))) (h9 : w8.setCell ⟨N, 1, none⟩ z = W9) :
    DSt w W9 b gr bs i er F v acc ∧ W9.heap[N]? = some (.cells #[x, z] t (0, 0)) ∧ W9.heap[M]? = some (.cells cs s (0, 0)) ∧ Chg (fun k => k = N) w8 W9 := by
  have hc : Chg (fun k => k = N) w8 W9 := by rw [← h9]; exact (Chg.refl (fun k => k = N) w8).setCell (p := ⟨N, 1, none⟩) (fun _ => rfl) z
  refine ⟨h.turn hN (fun h => Nat.lt_irrefl _ (hF N h)) hc, ?_, hc.blk hfm (by omega), hc⟩
  rw [← h9]
  have := blk_set hbx 1 z
  simpa using this

end Go.Proofs.Ythmghcjkmmhgnaa.K
