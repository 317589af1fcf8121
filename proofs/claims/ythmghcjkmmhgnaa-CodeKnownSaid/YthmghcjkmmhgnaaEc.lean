import Derived.Test.YthmghcjkmmhgnaaEb
import Derived.BigQuiet
import Derived.IntWalk
import Derived.Deep.RegionHeld3
namespace Go.Proofs.Ythmghcjkmmhgnaa.K
open Go.RowKit Go.Proofs.YthmghcjkmmhgnaaW.PrintWords Go.Proofs.YthmghcjkmmhgnaaW.PrintLast Go.Proofs.YthmghcjkmmhgnaaW.PrintMore
set_option linter.unusedVariables false
set_option linter.unusedSimpArgs false
set_option maxRecDepth 100000

theorem code_formW (w : World) (kind : Int) (f : FuncId) (hf : wrF kind = f) (h0 : 0 ≤ kind) (h8 : kind ≤ 8) : Calls Try.prog 51 #[.int .u8 kind] w fun e w' => ∃ x y, e = .returned (.agg #[.func (.func x) #[] #[], .func (.func f) #[] #[], y]) ∧ Chg (fun _ => False) w w' :=
  (code_formOf w kind h0 h8).mono fun e w' ⟨v, he, _, hc⟩ => ⟨rdF kind, v, by subst hf; exact he, hc⟩
theorem form_w2 (w : World) (F : Nat → Prop) (g : Nat) (l : List Int) (a : Int) (hw : Wr w F g l) (a0 : 0 ≤ a) (a1 : a ≤ 9223372036854775807) (hl : l.length < 140737488355000) :
    Calls Try.prog 71 #[.pointer (some ⟨g, 0, none⟩), .int .i64 a] w fun e w' => e = .returned (.tuple #[]) ∧ Wr w' (New F w w') g (l ++ digs a 10) ∧ Chg F w w' := by
  have hW := Aside0.mk hw
  clear hw
  have u1 : IntKind.u64.wrap a = a := by simp [IntKind.wrap, IntKind.bits, IntKind.signed]; omega
  go_enter Try.func71, Try.ntmps71
  go_wp2_with (go_at_call 72; go_must (refine (wr_uint _ F g l a hW.out a0 (by omega) hl).mono ?_); go_must (rintro e w1 ⟨rfl, hw1, hc1⟩); (replace hw1 := Aside0.mk hw1); (replace hc1 := Aside0.mk hc1))
  go_end0
  exact ⟨rfl, hw1.out, hc1.out⟩
theorem form_w7 (w : World) (g : Nat) (a : Int) : Calls Try.prog 80 #[.pointer (some ⟨g, 0, none⟩), .int .i64 a] w fun e w' => e = .returned (.tuple #[]) ∧ w' = w := by
  go_enter Try.func80, Try.ntmps80
  go_wp2
  go_end0
  exact ⟨rfl, rfl⟩
/-- What a writer of operands does. -/
def WrOK (f : FuncId) (a : Int) (ys : List Int) : Prop := ∀ W F g l, Wr W F g l → l.length < 140737488354000 → Calls Try.prog f #[.pointer (some ⟨g, 0, none⟩), .int .i64 a] W fun e W' => e = .returned (.tuple #[]) ∧ Wr W' (New F W W') g (l ++ ys) ∧ Chg F W W'
theorem Wr.tight {w : World} {F : Nat → Prop} {g : Nat} {l : List Int} (h : Wr w F g l) : ∃ F', Wr w F' g l ∧ ∀ k, F' k → F k ∧ k < w.heap.size := by
  refine ⟨fun k => F k ∧ k < w.heap.size, h.mono (fun k hk hf => ⟨hf, hk⟩), fun _ h => h⟩
theorem enc_chain {w wr w2 w3 : World} {a0 : Nat} {F : Nat → Prop} (ha : a0 = w.heap.size) (hCh : Chg (fun _ => False) w wr) (hF : ∀ k, F k → a0 ≤ k ∧ k < wr.heap.size) (h2 : Chg (fun _ => False) wr w2) (h3 : Chg F w2 w3) : Chg (fun _ => False) w w3 :=
  (hCh.trans h2 (fun _ _ h => h)).trans h3 (fun i hi h => by have := (hF i h).1; omega)

theorem nw_size {w w1 : World} {o : Obj} (h : w1 = w.alloc o) : w.heap.size < w1.heap.size := by subst h; simp
theorem nw_chg {w w1 : World} {o : Obj} (h : w1 = w.alloc o) : Chg (fun _ => False) w w1 := by subst h; exact (Chg.refl _ w).alloc _
theorem enc_size {w2 w3 : World} {F : Nat → Prop} {N : Nat} {o : Obj} (h3 : Chg F w2 w3) (hb : w2.heap[N]? = some o) : N < w2.heap.size ∧ w2.heap.size ≤ w3.heap.size := ⟨blk_lt hb, h3.size⟩
theorem enc_not1 {w wr w2 w3 : World} {F : Nat → Prop} (hF : ∀ k, F k → w.heap.size ≤ k ∧ k < wr.heap.size) (hz : wr.heap.size < w2.heap.size ∧ w2.heap.size ≤ w3.heap.size) (h : New F w2 w3 wr.heap.size) : False := by
  rcases h with h | h
  · have := (hF _ h).2; omega
  · omega
theorem enc_not2 {w wr w2 w3 w4 : World} {F : Nat → Prop} (hF : ∀ k, F k → w.heap.size ≤ k ∧ k < wr.heap.size) (hz : wr.heap.size < w2.heap.size ∧ w2.heap.size ≤ w3.heap.size) (hz4 : w3.heap.size ≤ w4.heap.size) (h : New F w2 w3 w4.heap.size) : False := by
  rcases h with h | h
  · have := (hF _ h).2; omega
  · omega
theorem enc_s2 {wr wa w2 : World} {F : Nat → Prop} {g N : Nat} {l : List Int} {o : Obj} (hb : wa.heap[N]? = some o) (hw : Wr wa F g l) (hca : Chg (fun _ => False) wr wa) (hc : Chg (fun _ => False) wa w2) : w2.heap[N]? = some o ∧ Wr w2 F g l ∧ Chg (fun _ => False) wr w2 :=
  ⟨hc.blk hb (fun h => h), hw.chg hc (fun _ _ _ h => h), hca.trans hc (fun _ _ h => h)⟩
theorem enc_s3 {w wr w2 w3 : World} {F : Nat → Prop} {o : Obj} (hb : w2.heap[wr.heap.size]? = some o) (hF : ∀ k, F k → w.heap.size ≤ k ∧ k < wr.heap.size) (hCh : Chg (fun _ => False) w wr) (h2 : Chg (fun _ => False) wr w2) (h3 : Chg F w2 w3) :
    w3.heap[wr.heap.size]? = some o ∧ (wr.heap.size < w2.heap.size ∧ w2.heap.size ≤ w3.heap.size) ∧ Chg (fun _ => False) w w3 :=
  ⟨h3.blk hb (fun h => Nat.lt_irrefl _ (hF _ h).2), enc_size h3 hb, enc_chain rfl hCh hF h2 h3⟩
theorem enc_s4 {w w3 w4 : World} {F : Nat → Prop} {g N : Nat} {l : List Int} {o : Obj} (hb : w3.heap[N]? = some o) (hw : Wr w3 F g l) (hc : Chg (fun _ => False) w w3) (h4 : Chg (fun _ => False) w3 w4) : w4.heap[N]? = some o ∧ Wr w4 F g l ∧ w3.heap.size ≤ w4.heap.size ∧ Chg (fun _ => False) w w4 :=
  ⟨h4.blk hb (fun h => h), hw.chg h4 (fun _ _ _ h => h), h4.size, hc.trans h4 (fun _ _ h => h)⟩
theorem enc_s6 {w W5 w6 : World} {F : Nat → Prop} {g N M : Nat} {l : List Int} {o q : Obj} (hb : W5.heap[N]? = some o) (hr : W5.heap[M]? = some q) (hw : Wr W5 F g l) (hc : Chg (fun _ => False) w W5) (h6 : Chg (fun _ => False) W5.drew w6) : w6.heap[N]? = some o ∧ w6.heap[M]? = some q ∧ Wr w6 F g l ∧ Chg (fun _ => False) w w6 :=
  ⟨h6.blk (a := W5.drew) hb (fun h => h), h6.blk (a := W5.drew) hr (fun h => h), (hw.chg ((Chg.refl (fun _ => False) W5).drew) (fun _ _ _ h => h)).chg h6 (fun _ _ _ h => h), hc.drew.trans h6 (fun _ _ h => h)⟩
theorem enc_s7 {w wr w2 w3 w4 w6 w7 : World} {F : Nat → Prop} {o q : Obj} (hb : w6.heap[wr.heap.size]? = some o) (hr : w6.heap[w4.heap.size]? = some q) (hF : ∀ k, F k → w.heap.size ≤ k ∧ k < wr.heap.size) (hz : wr.heap.size < w2.heap.size ∧ w2.heap.size ≤ w3.heap.size) (hz4 : w3.heap.size ≤ w4.heap.size) (h7 : Chg (New F w2 w3) w6 w7) :
    w7.heap[wr.heap.size]? = some o ∧ w7.heap[w4.heap.size]? = some q := ⟨h7.blk hb (fun h => enc_not1 hF hz h), h7.blk hr (fun h => enc_not2 hF hz hz4 h)⟩
theorem enc_alloc {w w4 W5 : World} {F : Nat → Prop} {g : Nat} {l : List Int} {o : Obj} {cs : Array Value} {t : TypeId} {N : Nat} (hb : w4.heap[N]? = some o) (hw : Wr w4 F g l) (hc : Chg (fun _ => False) w w4) (h : w4.alloc (.cells cs t) = W5) :
    W5.heap[N]? = some o ∧ W5.heap[w4.heap.size]? = some (.cells cs t (0, 0)) ∧ Wr W5 F g l ∧ Chg (fun _ => False) w W5 := by
  subst h
  exact ⟨heap_alloc_old3 _ _ hb, heap_alloc_new w4 _, hw.chg ((Chg.refl (fun _ => False) w4).alloc _) (fun _ _ _ h => h), hc.alloc _⟩
theorem Wr.drew' {w : World} {F : Nat → Prop} {g : Nat} {l : List Int} (h : Wr w F g l) : Wr w.drew F g l := h.chg ((Chg.refl (fun _ => False) w).drew) (fun _ _ _ h => h)
theorem enc_rel {w wr w2 w3 w6 w7 : World} {F : Nat → Prop} {g : Nat} {cur ys pp : List Int} {op : Int} (hF : ∀ k, F k → w.heap.size ≤ k ∧ k < wr.heap.size) (hCh : Chg (fun _ => False) w wr) (hz : wr.heap.size < w2.heap.size ∧ w2.heap.size ≤ w3.heap.size) (hc6 : Chg (fun _ => False) w w6)
    (hw7 : Wr w7 (New (New F w2 w3) w6 w7) g (cur ++ be op 1 ++ ys)) (hc7 : Chg (New F w2 w3) w6 w7) (hpp : be op 1 ++ ys = pp) :
    ∃ F', Wr w7 F' g (cur ++ pp) ∧ (∀ j, F' j → w.heap.size ≤ j ∧ j < w7.heap.size) ∧ Chg (fun _ => False) w w7 := by
  have z0 := hCh.size
  have z6 := hc6.size
  refine ⟨fun j => New (New F w2 w3) w6 w7 j ∧ j < w7.heap.size, ?_, fun j hj => ⟨?_, hj.2⟩, hc6.trans hc7 (fun i hi h => ?_)⟩
  · rw [← hpp, ← List.append_assoc]; exact hw7.mono (fun j hj hf => ⟨hf, hj⟩)
  · rcases hj.1 with (h | h) | h
    · exact (hF _ h).1
    · omega
    · omega
  · rcases h with h | h
    · have := (hF _ h).1; omega
    · omega
set_option maxHeartbeats 4000000
theorem code_Encode (w : World) (A : Option Addr) (n cap : Nat) (l : List Instr) (hC : Kd.C kInstr w A n l) (hl : ∀ i ∈ l, -9223372036854775808 ≤ i.a ∧ i.a ≤ 9223372036854775807) (hn : l.length ≤ 8796093022208) :
    Calls Try.prog 43 #[.slice A n cap] w fun e w' => ∃ v, e = .returned (.tuple #[v, .int .i64 (encP l).2]) ∧ Kd.R (Kd.int .u8) 5 w' 0 (New (fun _ => False) w w') v (encP l).1 ∧ Chg (fun _ => False) w w' := by
  have e0 := hC.1
  subst e0
  have hCA := Aside0.mk hC
  have hlA := Aside0.mk hl
  clear hC hl
  by_cases hbig : 2000 < l.length
  · have hE : Aside0 (encP l = ([], 5)) := ⟨by unfold encP; rw [if_pos hbig]⟩
    have d0 : decide (2000 < l.length) = true := by simpa using hbig
    have d1 : decide ((2000 : Int) < (l.length : Int)) = true := by simp; omega
    go_enter Try.func43, Try.ntmps43
    go_wp2
    go_ret2
    rw [hE.out]
    exact ⟨_, rfl, Kd.R_nil _ _ _ _ _, Chg.refl _ _⟩
  · have hE : Aside0 (encP l = encGo l []) := ⟨by unfold encP; rw [if_neg hbig]⟩
    have d0 : decide (2000 < l.length) = false := by simpa using hbig
    have d1 : decide ((2000 : Int) < (l.length : Int)) = false := by simp; omega
    have hsmall : Aside0 (l.length ≤ 2000) := ⟨by omega⟩
    go_enter Try.func43, Try.ntmps43
    go_wp2_with (go_at_call 61; go_must (refine (wr_new _).mono ?_); go_must (rintro e w1 ⟨rfl, hw1, hc1⟩); go_must (have hz1 := Aside0.mk (nw_size hc1)); (replace hw1 := Aside0.mk hw1); (replace hc1 := Aside0.mk (nw_chg hc1)))
    go_loopw [6, 7, 8, 9, 16] (fun _ _ _ _ i wr => ∃ (k : Nat) (F : Nat → Prop) (cur : List Int), i = .int .i64 k ∧ k ≤ l.length ∧ Aside0 (Wr wr F w.heap.size cur) ∧ Aside0 (∀ j, F j → w.heap.size ≤ j ∧ j < wr.heap.size) ∧ Aside0 (encGo (l.drop k) cur = encGo l [] ∧ cur.length ≤ 11 * k) ∧ Aside0 (Chg (fun _ => False) w wr)) (fun _ _ _ _ i _ => l.length - (intOf i).toNat)
    case atStart => exact ⟨0, _, [], rfl, by omega, hw1, ⟨fun j hj => by subst hj; exact ⟨Nat.le_refl _, hz1.out⟩⟩, ⟨by simp, by simp⟩, hc1⟩
    case round =>
      obtain ⟨k, F, cur, rfl, hk, hW, hF, hG, hCh⟩ := hrel
      by_cases hlt : k < l.length
      · obtain ⟨ad, op, a, e1, e2, x0, x1⟩ := instr_at (C_chg hCA.out (hCh.out.below (fun _ _ h => h))) k hlt
        subst e1
        have hk0 : (0 : Int) ≤ k := by omega
        have hk1 : (k : Int) < l.length := by omega
        obtain ⟨a0, a1⟩ := hlA.out _ (instr_mem e2)
        simp only at a0 a1
        have hstep : Aside0 (encGo (l.drop k) cur = if efP op a = true then encGo (l.drop (k + 1)) (cur ++ putP op a) else ([], 7)) := ⟨by rw [drop_get e2, encGo]⟩
        have hck : Aside0 (∀ W, Calls Try.prog 33 #[.agg #[.int .i64 op, .int .i64 a]] W fun e w' => e = .returned (.int .i64 (if efP op a = true then 0 else 7)) ∧ Chg (fun _ => False) W w') := ⟨fun W => code_Check W op a⟩
        have hbx := Aside0.mk (heap_alloc_new wr (.cells #[.int .i64 op, .int .i64 a] 35))
        have hca := Aside0.mk ((Chg.refl (fun _ => False) wr).alloc (.cells #[.int .i64 op, .int .i64 a] 35))
        have hwa := Aside0.mk (hW.out.chg hca.out (fun _ _ _ h => h))
        clear e2
        cases hef : efP op a
        · rw [hef] at hck hstep
          have hfin : Aside0 (encGo l [] = ([], 7)) := ⟨by rw [← hG.out.1, hstep.out]; rfl⟩
          replace hck : Aside0 (∀ W, Calls Try.prog 33 #[.agg #[.int .i64 op, .int .i64 a]] W fun e w' => e = .returned (.int .i64 7) ∧ Chg (fun _ => False) W w') := ⟨hck.out⟩
          clear hef hstep
          go_wp2_with (go_at_call 33; go_must (refine (hck.out _).mono ?_); go_must (rintro e w2 ⟨rfl, hc2⟩); (replace hc2 := Aside0.mk (hCh.out.trans (hca.out.trans hc2 (fun _ _ h => h)) (fun _ _ h => h))))
          go_ret2
          rw [hE.out, hfin.out]
          exact ⟨_, rfl, Kd.R_nil _ _ _ _ _, hc2.out⟩
        · rw [hef] at hck hstep
          obtain ⟨g1, g2, g3⟩ := ef_facts hef
          have hnext : Aside0 (encGo (l.drop (k + 1)) (cur ++ putP op a) = encGo l [] ∧ (cur ++ putP op a).length ≤ 11 * (k + 1)) := ⟨by rw [← hG.out.1, hstep.out]; rfl, by have := putP_length op a; have := hG.out.2; simp; omega⟩
          have hlen : Aside0 (cur.length ≤ 22000) := ⟨by have := hG.out.2; have := hsmall.out; omega⟩
          replace hck : Aside0 (∀ W, Calls Try.prog 33 #[.agg #[.int .i64 op, .int .i64 a]] W fun e w' => e = .returned (.int .i64 0) ∧ Chg (fun _ => False) W w') := ⟨hck.out⟩
          obtain ⟨b0, b1, _, _, _, _⟩ := rowP_bounds op
          have hbe : be op 1 = [op] := by simp [be]; omega
          have hpp : Aside0 (be op 1 ++ (if (rowP op).kind = 1 then digs (fold a) 10 else if (rowP op).kind = 0 then [] else digs a 10) = putP op a) := ⟨by rw [hbe]; rfl⟩
          have hrow0 := fun W => code_rowOf W op
          generalize putP op a = pp at hnext hpp
          generalize rowP op = r at hpp b0 b1 g2 g3 hrow0
          obtain ⟨nm, kd, tk, pt, mn⟩ := r
          simp only at hpp b0 b1 g2 g3
          have hrow : Aside0 (∀ W, Calls Try.prog 49 #[.int .i64 op] W fun e w' => e = .returned (.tuple #[.agg #[.string nm, .int .u8 kd, .int .u8 tk, .int .u8 pt, .bool mn], .bool (okP op)]) ∧ Chg (fun _ => False) W w') := ⟨hrow0⟩
          generalize okP op = ok at hrow
          have u0 : IntKind.u8.wrap op = op := by simp [IntKind.wrap, IntKind.bits, IntKind.signed]; omega
          have hop0 := g1.1
          have hop2 : op < 256 := by omega
          have hfl : ∀ (W : World) (a b c : Value), (Instr.field 69 (.agg #[a, b, c]) 1).run Try.prog W = .ok b W := fun W a b c => form_field1 W a b c
          clear hef hstep hrow0 hbe
          by_cases k1 : kd = 1
          · subst k1
            have hwf : Aside0 (wrF 1 = 74) := ⟨rfl⟩
            have hwk : Aside0 (WrOK 74 a (digs (fold a) 10)) := ⟨fun W F g l h hl => wr_int W F g l a h a0 a1 (by omega)⟩
            replace hpp : Aside0 (be op 1 ++ digs (fold a) 10 = pp) := ⟨hpp.out⟩
            clear g1 g2 g3 a0 a1
            go_wp2_with (first | (go_at_call 33; go_must (refine (hck.out _).mono ?_); go_must (rintro e w2 ⟨rfl, hc2⟩); go_must (obtain ⟨hbx2, hw2, hc2⟩ := enc_s2 hbx.out hwa.out hca.out hc2); go_must (have y20 : w2.cell? ⟨wr.heap.size, 0, none⟩ = some (.int .i64 op) := blk_cell hbx2 0); go_must (replace hbx2 := Aside0.mk hbx2); go_must (replace hw2 := Aside0.mk hw2); go_must (replace hc2 := Aside0.mk hc2)) | (go_at_call 62; go_must (refine (wr_byte _ F _ cur op hw2.out hop0 hop2 (by have := hlen.out; omega)).mono ?_); go_must (rintro e w3 ⟨rfl, hw3, hc3⟩); go_must (obtain ⟨hbx3, hz3, hc3⟩ := enc_s3 hbx2.out hF.out hCh.out hc2.out hc3); go_must (have y30 : w3.cell? ⟨wr.heap.size, 0, none⟩ = some (.int .i64 op) := blk_cell hbx3 0); go_must (replace hbx3 := Aside0.mk hbx3); go_must (replace hz3 := Aside0.mk hz3); go_must (replace hw3 := Aside0.mk hw3); go_must (replace hc3 := Aside0.mk hc3)) | (go_at_call 49; go_must (refine (hrow.out _).mono ?_); go_must (rintro e w4 ⟨rfl, hc4⟩); go_must (obtain ⟨hbx4, hw4, hz4, hc4⟩ := enc_s4 hbx3.out hw3.out hc3.out hc4); go_must (replace hbx4 := Aside0.mk hbx4); go_must (replace hz4 := Aside0.mk hz4); go_must (replace hw4 := Aside0.mk hw4); go_must (replace hc4 := Aside0.mk hc4)) | fail)
            generalize hW5 : World.alloc _ _ = W5
            obtain ⟨hbx5, hrw5, hw5, hc5⟩ := enc_alloc hbx4.out hw4.out hc4.out hW5
            have x1 : W5.cell? ⟨wr.heap.size, 1, none⟩ = some (.int .i64 a) := blk_cell hbx5 1
            have r1 : W5.cell? ⟨w4.heap.size, 1, none⟩ = some (.int .u8 1) := blk_cell hrw5 1
            replace hbx5 := Aside0.mk hbx5
            replace hrw5 := Aside0.mk hrw5
            replace hw5 := Aside0.mk hw5
            replace hc5 := Aside0.mk hc5
            clear hW5
            go_region_held3 (fun w' => w'.cell? ⟨wr.heap.size, 1, none⟩ = some (.int .i64 a) ∧ w'.cell? ⟨w4.heap.size, 1, none⟩ = some (.int .u8 1)) (first | exact ⟨x7, r7⟩ | exact ⟨x6, r6⟩ | go_keep) (first | (go_at_call 51; refine (code_formW _ _ 74 hwf.out b0 b1).mono ?_; rintro e w6 ⟨fx, fy, rfl, hc6⟩; obtain ⟨hbx6, hrw6, hw6, hc6⟩ := enc_s6 hbx5.out hrw5.out hw5.out hc5.out hc6; (have x6 : w6.cell? ⟨wr.heap.size, 1, none⟩ = some (.int .i64 a) := blk_cell hbx6 1); (have r6 : w6.cell? ⟨w4.heap.size, 1, none⟩ = some (.int .u8 1) := blk_cell hrw6 1); (replace hbx6 := Aside0.mk hbx6); (replace hrw6 := Aside0.mk hrw6); (replace hw6 := Aside0.mk hw6); (replace hc6 := Aside0.mk hc6)) | (go_at_call 74; refine (hwk.out _ _ _ _ hw6.out (by have := hlen.out; simp [be]; omega)).mono ?_; rintro e w7 ⟨rfl, hw7, hc7⟩; obtain ⟨hbx7, hrw7⟩ := enc_s7 hbx6.out hrw6.out hF.out hz3.out hz4.out hc7; (have x7 : w7.cell? ⟨wr.heap.size, 1, none⟩ = some (.int .i64 a) := blk_cell hbx7 1); (have r7 : w7.cell? ⟨w4.heap.size, 1, none⟩ = some (.int .u8 1) := blk_cell hrw7 1); (replace hw7 := Aside0.mk hw7); (replace hc7 := Aside0.mk hc7); clear hbx7 hrw7))
            go_wp2
            go_roundw
            case measure => first | (simp [intOf]; done) | (simp [intOf]; omega)
            case rel =>
              obtain ⟨F', q1, q2, q3⟩ := enc_rel hF.out hCh.out hz3.out hc6.out hw7.out hc7.out hpp.out
              exact ⟨k + 1, F', _, by go_num, by omega, ⟨q1⟩, ⟨q2⟩, hnext, ⟨q3⟩⟩
          · by_cases k0 : kd = 0
            · subst k0
              have hwf : Aside0 (wrF 0 = 80) := ⟨rfl⟩
              have hwk : Aside0 (WrOK 80 a []) := ⟨fun W F g l h hl => (form_w7 W g a).mono (fun e w' h' => by obtain ⟨rfl, rfl⟩ := h'; exact ⟨rfl, by rw [List.append_nil]; exact h.mono (fun k _ hk => .inl hk), Chg.refl _ _⟩)⟩
              replace hpp : Aside0 (be op 1 ++ [] = pp) := ⟨hpp.out⟩
              clear g1 g2 g3 a0 a1
              go_wp2_with (first | (go_at_call 33; go_must (refine (hck.out _).mono ?_); go_must (rintro e w2 ⟨rfl, hc2⟩); go_must (obtain ⟨hbx2, hw2, hc2⟩ := enc_s2 hbx.out hwa.out hca.out hc2); go_must (have y20 : w2.cell? ⟨wr.heap.size, 0, none⟩ = some (.int .i64 op) := blk_cell hbx2 0); go_must (replace hbx2 := Aside0.mk hbx2); go_must (replace hw2 := Aside0.mk hw2); go_must (replace hc2 := Aside0.mk hc2)) | (go_at_call 62; go_must (refine (wr_byte _ F _ cur op hw2.out hop0 hop2 (by have := hlen.out; omega)).mono ?_); go_must (rintro e w3 ⟨rfl, hw3, hc3⟩); go_must (obtain ⟨hbx3, hz3, hc3⟩ := enc_s3 hbx2.out hF.out hCh.out hc2.out hc3); go_must (have y30 : w3.cell? ⟨wr.heap.size, 0, none⟩ = some (.int .i64 op) := blk_cell hbx3 0); go_must (replace hbx3 := Aside0.mk hbx3); go_must (replace hz3 := Aside0.mk hz3); go_must (replace hw3 := Aside0.mk hw3); go_must (replace hc3 := Aside0.mk hc3)) | (go_at_call 49; go_must (refine (hrow.out _).mono ?_); go_must (rintro e w4 ⟨rfl, hc4⟩); go_must (obtain ⟨hbx4, hw4, hz4, hc4⟩ := enc_s4 hbx3.out hw3.out hc3.out hc4); go_must (replace hbx4 := Aside0.mk hbx4); go_must (replace hz4 := Aside0.mk hz4); go_must (replace hw4 := Aside0.mk hw4); go_must (replace hc4 := Aside0.mk hc4)) | fail)
              generalize hW5 : World.alloc _ _ = W5
              obtain ⟨hbx5, hrw5, hw5, hc5⟩ := enc_alloc hbx4.out hw4.out hc4.out hW5
              have x1 : W5.cell? ⟨wr.heap.size, 1, none⟩ = some (.int .i64 a) := blk_cell hbx5 1
              have r1 : W5.cell? ⟨w4.heap.size, 1, none⟩ = some (.int .u8 0) := blk_cell hrw5 1
              replace hbx5 := Aside0.mk hbx5
              replace hrw5 := Aside0.mk hrw5
              replace hw5 := Aside0.mk hw5
              replace hc5 := Aside0.mk hc5
              clear hW5
              go_region_held3 (fun w' => w'.cell? ⟨wr.heap.size, 1, none⟩ = some (.int .i64 a) ∧ w'.cell? ⟨w4.heap.size, 1, none⟩ = some (.int .u8 0)) (first | exact ⟨x7, r7⟩ | exact ⟨x6, r6⟩ | go_keep) (first | (go_at_call 51; refine (code_formW _ _ 80 hwf.out b0 b1).mono ?_; rintro e w6 ⟨fx, fy, rfl, hc6⟩; obtain ⟨hbx6, hrw6, hw6, hc6⟩ := enc_s6 hbx5.out hrw5.out hw5.out hc5.out hc6; (have x6 : w6.cell? ⟨wr.heap.size, 1, none⟩ = some (.int .i64 a) := blk_cell hbx6 1); (have r6 : w6.cell? ⟨w4.heap.size, 1, none⟩ = some (.int .u8 0) := blk_cell hrw6 1); (replace hbx6 := Aside0.mk hbx6); (replace hrw6 := Aside0.mk hrw6); (replace hw6 := Aside0.mk hw6); (replace hc6 := Aside0.mk hc6)) | (go_at_call 80; refine (hwk.out _ _ _ _ hw6.out (by have := hlen.out; simp [be]; omega)).mono ?_; rintro e w7 ⟨rfl, hw7, hc7⟩; obtain ⟨hbx7, hrw7⟩ := enc_s7 hbx6.out hrw6.out hF.out hz3.out hz4.out hc7; (have x7 : w7.cell? ⟨wr.heap.size, 1, none⟩ = some (.int .i64 a) := blk_cell hbx7 1); (have r7 : w7.cell? ⟨w4.heap.size, 1, none⟩ = some (.int .u8 0) := blk_cell hrw7 1); (replace hw7 := Aside0.mk hw7); (replace hc7 := Aside0.mk hc7); clear hbx7 hrw7))
              go_wp2
              go_roundw
              case measure => first | (simp [intOf]; done) | (simp [intOf]; omega)
              case rel =>
                obtain ⟨F', q1, q2, q3⟩ := enc_rel hF.out hCh.out hz3.out hc6.out hw7.out hc7.out hpp.out
                exact ⟨k + 1, F', _, by go_num, by omega, ⟨q1⟩, ⟨q2⟩, hnext, ⟨q3⟩⟩
            · have hwf : Aside0 (wrF kd = 71) := ⟨by unfold wrF; rw [if_neg k1, if_neg k0]⟩
              have ha := g2 k1
              have hwk : Aside0 (WrOK 71 a (digs a 10)) := ⟨fun W F g l h hl => form_w2 W F g l a h ha a1 (by omega)⟩
              replace hpp : Aside0 (be op 1 ++ digs a 10 = pp) := ⟨by have := hpp.out; rw [if_neg k1, if_neg k0] at this; exact this⟩
              clear g1 g2 g3 a0 a1 ha k1 k0
              go_wp2_with (first | (go_at_call 33; go_must (refine (hck.out _).mono ?_); go_must (rintro e w2 ⟨rfl, hc2⟩); go_must (obtain ⟨hbx2, hw2, hc2⟩ := enc_s2 hbx.out hwa.out hca.out hc2); go_must (have y20 : w2.cell? ⟨wr.heap.size, 0, none⟩ = some (.int .i64 op) := blk_cell hbx2 0); go_must (replace hbx2 := Aside0.mk hbx2); go_must (replace hw2 := Aside0.mk hw2); go_must (replace hc2 := Aside0.mk hc2)) | (go_at_call 62; go_must (refine (wr_byte _ F _ cur op hw2.out hop0 hop2 (by have := hlen.out; omega)).mono ?_); go_must (rintro e w3 ⟨rfl, hw3, hc3⟩); go_must (obtain ⟨hbx3, hz3, hc3⟩ := enc_s3 hbx2.out hF.out hCh.out hc2.out hc3); go_must (have y30 : w3.cell? ⟨wr.heap.size, 0, none⟩ = some (.int .i64 op) := blk_cell hbx3 0); go_must (replace hbx3 := Aside0.mk hbx3); go_must (replace hz3 := Aside0.mk hz3); go_must (replace hw3 := Aside0.mk hw3); go_must (replace hc3 := Aside0.mk hc3)) | (go_at_call 49; go_must (refine (hrow.out _).mono ?_); go_must (rintro e w4 ⟨rfl, hc4⟩); go_must (obtain ⟨hbx4, hw4, hz4, hc4⟩ := enc_s4 hbx3.out hw3.out hc3.out hc4); go_must (replace hbx4 := Aside0.mk hbx4); go_must (replace hz4 := Aside0.mk hz4); go_must (replace hw4 := Aside0.mk hw4); go_must (replace hc4 := Aside0.mk hc4)) | fail)
              generalize hW5 : World.alloc _ _ = W5
              obtain ⟨hbx5, hrw5, hw5, hc5⟩ := enc_alloc hbx4.out hw4.out hc4.out hW5
              have x1 : W5.cell? ⟨wr.heap.size, 1, none⟩ = some (.int .i64 a) := blk_cell hbx5 1
              have r1 : W5.cell? ⟨w4.heap.size, 1, none⟩ = some (.int .u8 kd) := blk_cell hrw5 1
              replace hbx5 := Aside0.mk hbx5
              replace hrw5 := Aside0.mk hrw5
              replace hw5 := Aside0.mk hw5
              replace hc5 := Aside0.mk hc5
              clear hW5
              go_region_held3 (fun w' => w'.cell? ⟨wr.heap.size, 1, none⟩ = some (.int .i64 a) ∧ w'.cell? ⟨w4.heap.size, 1, none⟩ = some (.int .u8 kd)) (first | exact ⟨x7, r7⟩ | exact ⟨x6, r6⟩ | go_keep) (first | (go_at_call 51; refine (code_formW _ _ 71 hwf.out b0 b1).mono ?_; rintro e w6 ⟨fx, fy, rfl, hc6⟩; obtain ⟨hbx6, hrw6, hw6, hc6⟩ := enc_s6 hbx5.out hrw5.out hw5.out hc5.out hc6; (have x6 : w6.cell? ⟨wr.heap.size, 1, none⟩ = some (.int .i64 a) := blk_cell hbx6 1); (have r6 : w6.cell? ⟨w4.heap.size, 1, none⟩ = some (.int .u8 kd) := blk_cell hrw6 1); (replace hbx6 := Aside0.mk hbx6); (replace hrw6 := Aside0.mk hrw6); (replace hw6 := Aside0.mk hw6); (replace hc6 := Aside0.mk hc6)) | (go_at_call 71; refine (hwk.out _ _ _ _ hw6.out (by have := hlen.out; simp [be]; omega)).mono ?_; rintro e w7 ⟨rfl, hw7, hc7⟩; obtain ⟨hbx7, hrw7⟩ := enc_s7 hbx6.out hrw6.out hF.out hz3.out hz4.out hc7; (have x7 : w7.cell? ⟨wr.heap.size, 1, none⟩ = some (.int .i64 a) := blk_cell hbx7 1); (have r7 : w7.cell? ⟨w4.heap.size, 1, none⟩ = some (.int .u8 kd) := blk_cell hrw7 1); (replace hw7 := Aside0.mk hw7); (replace hc7 := Aside0.mk hc7); clear hbx7 hrw7))
              go_wp2
              go_roundw
              case measure => first | (simp [intOf]; done) | (simp [intOf]; omega)
              case rel =>
                obtain ⟨F', q1, q2, q3⟩ := enc_rel hF.out hCh.out hz3.out hc6.out hw7.out hc7.out hpp.out
                exact ⟨k + 1, F', _, by go_num, by omega, ⟨q1⟩, ⟨q2⟩, hnext, ⟨q3⟩⟩
      · obtain rfl : k = l.length := by omega
        have hfin : Aside0 (encGo l [] = (cur, 0)) := ⟨by rw [← hG.out.1, List.drop_length]; rfl⟩
        have hlen : Aside0 (cur.length ≤ 22000) := ⟨by have := hG.out.2; have := hsmall.out; omega⟩
        go_wp2_with (go_at_call 63; go_must (refine (wr_done _ F _ cur hW.out (by have := hlen.out; omega)).mono ?_); go_must (rintro e w8 ⟨v8, rfl, hr8, hc8⟩); go_must (obtain ⟨A8, n8, cap8, rfl⟩ := R_sl hr8); (replace hr8 := Aside0.mk hr8); (replace hc8 := Aside0.mk hc8))
        go_ret2
        rw [hE.out, hfin.out]
        have z := hCh.out.size
        exact ⟨_, rfl, Kd.R_mono hr8.out (fun k hk => hk.imp id (fun h => ⟨by omega, h.2⟩)), hCh.out.trans hc8.out (fun _ _ h => h)⟩

end Go.Proofs.Ythmghcjkmmhgnaa.K
