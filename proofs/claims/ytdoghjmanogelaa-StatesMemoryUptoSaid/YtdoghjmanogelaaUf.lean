import Derived.Test.YtdoghjmanogelaaUz
import Derived.IntWalk
import Derived.BigQuiet
import Derived.Deep.RegionHeld3
import Derived.Maps.OwnSet
import Derived.Lib.MinMax
namespace Go.Proofs.Ytdoghjmanogelaa.K
open Go.Maps Go.RowKit Go.Proofs.YtdoghjmanogelaaW.PrintWords Go.Proofs.YtdoghjmanogelaaW.PrintLast Go.Proofs.YtdoghjmanogelaaW.PrintMore
set_option linter.unusedVariables false
set_option linter.unusedSimpArgs false
set_option maxRecDepth 100000
theorem goesC_ {P : Program} {ops : Array Oper} {Q : Exit → Act → World → Prop} {oi : Oper} {N : Option Tmp} {a : Act} {w : World} {K : Act → World → Prop} {f : FuncId} {fn : Func} {t : Tmp} {ags : Array Operand} {ts : Array TypeId} {cap : Array Value} (hf : P.funcs[f]? = some fn) (hname : (fn.name == "runtime.NumGoroutine") = false) (hb : fn.body.isSome = true) (args : Array Value)
    (hw : Region.wanted oi (yielded ops a.tmps) = true) (hN : oi.dst = N) (hop : oi.op = .call { callee := .value (.tmp t), args := ags, argTypes := ts }) (hval : a.eval (.tmp t) = .func (.func f) #[] cap) (hargs : ags.map a.eval ++ cap = args)
    (h : Calls P f args w fun e w' => ∃ v, e = .returned v ∧ K (a.put N v) w') : if Region.wanted oi (yielded ops a.tmps) = true then Oper.wp P oi a w K Q else K (a.put N undef) w := by
  refine call_ f args hw hN ?_ h
  have he := enters_ hf hname hb args w
  unfold execOp
  simp [hop, resolve, Deferred.ofValue, invoke, hval, hargs, he]
def RnRel (w : World) (lo : Nat) (gs go gk mt ct mo co gw gf : Nat) (tA oA bA : Option Addr) (tc oc bc : Nat) (s : QS) (b : Bk) (v2 v3 vw : SV) (xk xf xc : Int) (xh : Bool) (its : List QV) (ks : List Int) (i : Value) (wr : World) : Prop := ∃ (k : Nat) (vA qA : Option Addr) (vN vC qN qC : Nat) (v1 vw2 : SV), i = .int .i64 k ∧ k ≤ max ks.length its.length ∧ Aside0 (wr.heap[w.heap.size]? = some (.cells #[.int .i64 xk, .slice vA vN vC, .slice qA qN qC, .int .i64 xf, .int .i64 xc, .bool xh] 59)) ∧ Aside0 (wr.heap[w.heap.size + 1]? = some (.cells #[.int .i64 0, .slice none 0 0, .slice none 0 0, .int .i64 0, .int .i64 0, .bool false] 59)) ∧ Aside0 (Ow kQV 56 wr w.heap.size (vA, vN, vC) (fieldsS s b ks its k).1.2) ∧ Aside0 (Ow (Kd.int .i64) 2 wr w.heap.size (qA, qN, qC) (fieldsS s b ks its k).1.1) ∧ Aside0 (apart vw2 (qA, qN, qC)) ∧ Aside0 (PBk wr lo gs go gk mt ct mo co gw gf tA oA bA tc oc bc s (fieldsS s b ks its k).2 v1 v2 v3 vw2) ∧ Aside0 (Turn2 w wr lo go vw vw2)
set_option maxHeartbeats 4000000
theorem renumbered_rec (w0 w : World) (gs go gk mt ct mo co gw gf : Nat) (tA oA bA : Option Addr) (tc oc bc : Nat) (s : QS) (b : Bk) (v1 v2 v3 vw : SV) (ros : List RO) (rbs : List RB) (L : List (List RF)) (iA kA : Option Addr) (iN iC kN kC : Nat) (xf xc : Int) (xh : Bool) (its : List QV) (ks : List Int) (h : PBk w w0.heap.size gs go gk mt ct mo co gw gf tA oA bA tc oc bc s b v1 v2 v3 vw) (hok : BkOk s b) (hV : SView w0 tA oA bA s ros rbs L) (h0 : Chg (fun _ => False) w0 w) (hn : s.texts.length ≤ 1048576) (hno : s.objs.length ≤ 1048576) (hi : Kd.C kQV w0 iA iN its) (hkk : Kd.C (Kd.int .i64) w0 kA kN ks) (hnn : ∀ v ∈ its, v.n ≤ 9223372036854775807) (hln : its.length ≤ 1048576) (hlk : ks.length ≤ 1048576) (hkn : ∀ v ∈ ks, v ≤ 9223372036854775807) :
    Calls Try.prog 62 #[.agg #[.int .i64 7, .slice iA iN iC, .slice kA kN kC, .int .i64 xf, .int .i64 xc, .bool xh], .func (.func 58) #[] #[.pointer (some ⟨gs, 0, none⟩), .pointer (some ⟨ct, 0, none⟩), .pointer (some ⟨go, 0, none⟩)], .func (.func 59) #[] #[.pointer (some ⟨gf, 0, none⟩), .pointer (some ⟨gk, 0, none⟩), .pointer (some ⟨co, 0, none⟩), .pointer (some ⟨gw, 0, none⟩)]] w (RnPost w w0.heap.size gs go gk mt ct mo co gw gf tA oA bA tc oc bc s (numO s b ⟨7, its, ks, xf, xc, xh⟩) v2 v3 vw) := by
  have hE : Aside0 (numO s b ⟨7, its, ks, xf, xc, xh⟩ = (⟨7, (fieldsS s b ks its (max ks.length its.length)).1.2, (fieldsS s b ks its (max ks.length its.length)).1.1, xf, xc, xh⟩, (fieldsS s b ks its (max ks.length its.length)).2)) := ⟨by unfold numO; rw [if_neg (fun h => h rfl)]⟩
  have e1 := hi.1
  have e2 := hkk.1
  subst e1 e2
  have hiA := Aside0.mk hi
  have hkA := Aside0.mk hkk
  have hVA := Aside0.mk hV
  have hBA := Aside0.mk h
  have h0A := Aside0.mk h0
  have hnA := Aside0.mk hnn
  have hoA := Aside0.mk hok
  have hliA := Aside0.mk hln
  have hlkA := Aside0.mk hlk
  clear hi hkk hV h h0 hnn hok
  go_enter Try.func62, Try.ntmps62
  go_upto_region 1 with (fail)
  (try simp only [Act.put, List.setIfInBounds_toArray, List.set_cons_zero, List.set_cons_succ])
  generalize hW : World.alloc (World.alloc w _) _ = W0
  have B1 : Aside0 (W0.heap[w.heap.size]? = some (.cells #[.int .i64 7, .slice iA its.length iC, .slice kA ks.length kC, .int .i64 xf, .int .i64 xc, .bool xh] 59)) := ⟨by rw [← hW]; exact ((Chg.refl (fun _ => False) (w.alloc _)).alloc _).blk (heap_alloc_new w _) (fun e => e)⟩
  have B2 : Aside0 (W0.heap[w.heap.size + 1]? = some (.cells #[.int .i64 0, .slice none 0 0, .slice none 0 0, .int .i64 0, .int .i64 0, .bool false] 59)) := ⟨by rw [← hW]; exact heap_alloc2_new w _ _⟩
  have hz0 : Aside0 (Chg (fun _ => False) w W0) := ⟨by rw [← hW]; exact cg⟩
  clear hW
  have hgt := blk_lt B2.out
  have hB0 := Aside0.mk (hBA.out.new hz0.out)
  have h00 : Aside0 (Chg (fun _ => False) w0 W0) := ⟨h0A.out.trans hz0.out (fun _ _ h => h)⟩
  have p0 : W0.cell? ⟨w.heap.size, 0, none⟩ = some (.int .i64 7) := blk_cell B1.out 0
  have p1 : W0.cell? ⟨w.heap.size, 1, none⟩ = some (.slice iA its.length iC) := blk_cell B1.out 1
  have p2 : W0.cell? ⟨w.heap.size, 2, none⟩ = some (.slice kA ks.length kC) := blk_cell B1.out 2
  have f1 := blk_frozen B1.out 1
  have f2 := blk_frozen B1.out 2
  go_upto_region 4 with (fail)
  (try simp only [Act.put, List.setIfInBounds_toArray, List.set_cons_zero, List.set_cons_succ])
  refine start_ (n := 6) (S := fun w' => w'.cell? ⟨w.heap.size, 1, none⟩ = some (.slice iA its.length iC) ∧ w'.cell? ⟨w.heap.size, 2, none⟩ = some (.slice kA ks.length kC)) (ds := []) #[false, false, false, false, false, false] (by kernel_rfl) rfl rfl ⟨p1, p2⟩ (fun hHeld => ?_)
  refine pure_ (i := 0) (N := some 23) (v := ?_) (a' := ?_) #[true, false, false, false, false, false] rfl rfl (by kernel_rfl) (fun _ _ _ h => h) (Or.inl ⟨by rfl, ?_⟩) ?_ ?_
  rotate_left
  · intro w'
    go_simp
    with_reducible rfl
  rotate_left
  · simp only [Act.put, List.setIfInBounds_toArray, List.set_cons_zero, List.set_cons_succ, i64_w, i32_w]
    rfl
  refine pure_ (i := 2) (N := some 25) (v := ?_) (a' := ?_) #[true, false, true, false, false, false] rfl rfl (by kernel_rfl) (fun _ _ _ h => h) (Or.inl ⟨by rfl, ?_⟩) ?_ ?_
  rotate_left
  · intro w'
    go_simp
    with_reducible rfl
  rotate_left
  · simp only [Act.put, List.setIfInBounds_toArray, List.set_cons_zero, List.set_cons_succ, i64_w, i32_w]
    rfl
  refine take_ (i := 1) (N := some 24) (v := ?_) (a' := ?_) #[true, true, true, false, false, false] rfl rfl (by kernel_rfl) (fun _ _ _ h => h) (Or.inl ⟨by rfl, ?_⟩) hHeld ?_ ?_
  rotate_left
  · rintro w' ⟨s0, s1⟩
    go_simp
    with_reducible rfl
  rotate_left
  · simp only [Act.put, List.setIfInBounds_toArray, List.set_cons_zero, List.set_cons_succ, i64_w, i32_w]
    rfl
  refine pure_ (i := 4) (N := some 7) (v := ?_) (a' := ?_) #[true, true, true, false, true, false] rfl rfl (by kernel_rfl) (fun _ _ _ h => h) (Or.inl ⟨by rfl, ?_⟩) ?_ ?_
  rotate_left
  · intro w'
    go_simp
    with_reducible rfl
  rotate_left
  · simp only [Act.put, List.setIfInBounds_toArray, List.set_cons_zero, List.set_cons_succ, i64_w, i32_w]
    rfl
  refine take_ (i := 3) (N := some 26) (v := ?_) (a' := ?_) #[true, true, true, true, true, false] rfl rfl (by kernel_rfl) (fun _ _ _ h => h) (Or.inl ⟨by rfl, ?_⟩) hHeld ?_ ?_
  rotate_left
  · rintro w' ⟨s0, s1⟩
    go_simp
    with_reducible rfl
  rotate_left
  · simp only [Act.put, List.setIfInBounds_toArray, List.set_cons_zero, List.set_cons_succ, i64_w, i32_w]
    rfl
  refine pure_ (i := 5) (N := some 8) (v := ?_) (a' := ?_) #[true, true, true, true, true, true] rfl rfl (by kernel_rfl) (fun _ _ _ h => h) (Or.inl ⟨by rfl, ?_⟩) ?_ ?_
  rotate_left
  · intro w'
    go_simp
    with_reducible rfl
  rotate_left
  · simp only [Act.put, List.setIfInBounds_toArray, List.set_cons_zero, List.set_cons_succ, i64_w, i32_w]
    rfl
  refine done_ (by kernel_rfl) ?_
  go_upto_region 6 with (fail)
  (try simp only [Act.put, List.setIfInBounds_toArray, List.set_cons_zero, List.set_cons_succ])
  have hX0 := Aside0.mk (blk_drew (blk_set (blk_set B1.out 2 (.slice none 0 0)) 1 (.slice none 0 0)))
  have hR0 := Aside0.mk (blk_drew (blk_setne (g := w.heap.size) (i := 1) (u := .slice none 0 0) (blk_setne (g := w.heap.size) (i := 2) (u := .slice none 0 0) B2.out (by omega)) (by omega)))
  have hB0' := Aside0.mk (((hB0.out.set (i := 2) (u := .slice none 0 0) B1.out (by decide)).set (i := 1) (u := .slice none 0 0) (blk_set B1.out 2 (.slice none 0 0)) (by decide)).new ((Chg.refl (fun _ => False) _).drew))
  have hT0 := Aside0.mk ((((Turn2.of_new (lo := w0.heap.size) (go := go) (vw := vw) hz0.out).set (g := w.heap.size) (i := 2) (u := .slice none 0 0) (Nat.le_refl _)).set (g := w.heap.size) (i := 1) (u := .slice none 0 0) (Nat.le_refl _)).then_new ((Chg.refl (fun _ => False) _).drew))
  generalize hW : World.drew _ = W1 at hX0 hR0 hB0' hT0 ⊢
  clear hW p0 p1 p2 f1 f2 B1 B2 hHeld hB0 h00
  simp only [List.setIfInBounds_toArray, List.set_cons_zero, List.set_cons_succ] at hX0
  go_wp2
  go_loopw [34] (fun i wr => RnRel w w0.heap.size gs go gk mt ct mo co gw gf tA oA bA tc oc bc s b v2 v3 vw 7 xf xc xh its ks i wr) (fun i _ => max ks.length its.length - (intOf i).toNat)
  case atStart => exact ⟨0, none, none, 0, 0, 0, 0, v1, vw, rfl, by omega, hX0, hR0, ⟨Ow.nil _ _ _ _⟩, ⟨Ow.nil _ _ _ _⟩, ⟨fun j _ h => by simp [svl, Value.ownBlock] at h⟩, hB0', hT0⟩
  case round =>
    clear hX0 hR0 hB0' hT0
    obtain ⟨k, vA, qA, vN, vC, qN, qC, v1, vw2, rfl, hk, hX, hR, hO, hQ, hAp, hB, hT⟩ := hrel
    have hF : Aside0 (fieldsS s b ks its (k + 1) = fieldS s ks its (fieldsS s b ks its k) k) := ⟨fieldsS_succ _ _ _ _ _⟩
    have hBok : Aside0 (BkOk s (fieldsS s b ks its k).2) := ⟨fieldsS_ok hoA.out k⟩
    have hcnt : Aside0 ((fieldsS s b ks its k).1.1.length ≤ k ∧ (fieldsS s b ks its k).1.2.length ≤ k) := ⟨fieldsS_len s b ks its k⟩
    have hk0 : (0 : Int) ≤ k := by omega
    have hli : Aside0 (((fieldsS s b ks its k).1.2.length + 1) * 16 ≤ 140737488355328) := ⟨by have := hcnt.out.2; have := hliA.out; have := hlkA.out; omega⟩
    have hlk : Aside0 (((fieldsS s b ks its k).1.1.length + 1) * 8 ≤ 140737488355328) := ⟨by have := hcnt.out.1; have := hliA.out; have := hlkA.out; omega⟩
    by_cases hk1 : k < ks.length
    · have hkm : (k : Int) < max (ks.length : Int) (its.length : Int) := by omega
      have h0w : Aside0 (Chg (fun _ => False) w0 wr) := ⟨Turn2.chg h0A.out hT.out⟩
      have hwd : Aside0 (Chg (fun _ => False) wr wr.drew) := ⟨(Chg.refl (fun _ => False) wr).drew⟩
      obtain ⟨ad, key, e1, e2, x0w⟩ := i64_at hkA.out k hk1
      subst e1
      have hno2 : Aside0 (¬ (svl (qA, qN, qC)).ownBlock = some (ad.add k).block) := ⟨fun e => by
        have h1 := World.block_lt_of_cell? w0 _ x0w
        have h2 := hQ.out.2 _ e
        have h3 := h0A.out.size
        omega⟩
      have x0 := cell_chg0 x0w h0w.out
      have q2 : wr.cell? ⟨w.heap.size, 2, none⟩ = some (.slice qA qN qC) := blk_cell hX.out 2
      have hk11 : (k : Int) < ks.length := by omega
      generalize fieldsS s b ks its k = a at hF hBok hO hQ hB hli hlk
      obtain ⟨⟨xs, ys⟩, B⟩ := a
      simp only [fieldS, e2] at hF
      simp only at hBok hO hQ hB hli hlk
      have hBok2 : Aside0 (BkOk s (numT s B key).2) := ⟨numT_ok hBok.out⟩
      clear e2 hcnt
      by_cases hk2 : k < its.length
      · go_upto_region 10 with (fail)
        (try simp only [Act.put, List.setIfInBounds_toArray, List.set_cons_zero, List.set_cons_succ])
        refine start_ (n := 12) (S := fun w' => w'.cell? ⟨w.heap.size, 2, none⟩ = some (.slice qA qN qC) ∧ w'.cell? (ad.add k) = some (.int .i64 key)) (ds := [11]) #[false, false, false, false, false, false, false, false, false, false, false, false] (by kernel_rfl) rfl rfl ⟨q2, x0⟩ (fun hHeld => ?_)
        refine pure_ (i := 0) (N := some 41) (v := ?_) (a' := ?_) #[true, false, false, false, false, false, false, false, false, false, false, false] rfl rfl (by kernel_rfl) (fun _ _ _ h => h) (Or.inl ⟨by rfl, ?_⟩) ?_ ?_
        rotate_left
        · intro w'
          go_simp
          with_reducible rfl
        rotate_left
        · simp only [Act.put, List.setIfInBounds_toArray, List.set_cons_zero, List.set_cons_succ, i64_w, i32_w]
          rfl
        refine pure_ (i := 2) (N := some 43) (v := ?_) (a' := ?_) #[true, false, true, false, false, false, false, false, false, false, false, false] rfl rfl (by kernel_rfl) (fun _ _ _ h => h) (Or.inl ⟨by rfl, ?_⟩) ?_ ?_
        rotate_left
        · intro w'
          go_simp
          with_reducible rfl
        rotate_left
        · simp only [Act.put, List.setIfInBounds_toArray, List.set_cons_zero, List.set_cons_succ, i64_w, i32_w]
          rfl
        refine pure_ (i := 3) (N := some 44) (v := ?_) (a' := ?_) #[true, false, true, true, false, false, false, false, false, false, false, false] rfl rfl (by kernel_rfl) (fun _ _ _ h => h) (Or.inl ⟨by rfl, ?_⟩) ?_ ?_
        rotate_left
        · intro w'
          go_simp
          with_reducible rfl
        rotate_left
        · simp only [Act.put, List.setIfInBounds_toArray, List.set_cons_zero, List.set_cons_succ, i64_w, i32_w]
          rfl
        refine pure_ (i := 4) (N := some 45) (v := ?_) (a' := ?_) #[true, false, true, true, true, false, false, false, false, false, false, false] rfl rfl (by kernel_rfl) (fun _ _ _ h => h) (Or.inl ⟨by rfl, ?_⟩) ?_ ?_
        rotate_left
        · intro w'
          go_simp
          with_reducible rfl
        rotate_left
        · simp only [Act.put, List.setIfInBounds_toArray, List.set_cons_zero, List.set_cons_succ, i64_w, i32_w]
          rfl
        refine pure_ (i := 5) (N := some 46) (v := ?_) (a' := ?_) #[true, false, true, true, true, true, false, false, false, false, false, false] rfl rfl (by kernel_rfl) (fun _ _ _ h => h) (Or.inl ⟨by rfl, ?_⟩) ?_ ?_
        rotate_left
        · intro w'
          go_simp
          with_reducible rfl
        rotate_left
        · simp only [Act.put, List.setIfInBounds_toArray, List.set_cons_zero, List.set_cons_succ, i64_w, i32_w]
          rfl
        refine take_ (i := 1) (N := some 42) (v := ?_) (a' := ?_) #[true, true, true, true, true, true, false, false, false, false, false, false] rfl rfl (by kernel_rfl) (fun _ _ _ h => h) (Or.inl ⟨by rfl, ?_⟩) hHeld ?_ ?_
        rotate_left
        · rintro w' ⟨s0, s1⟩
          go_simp
          with_reducible rfl
        rotate_left
        · simp only [Act.put, List.setIfInBounds_toArray, List.set_cons_zero, List.set_cons_succ, i64_w, i32_w]
          rfl
        refine take_ (i := 6) (N := some 47) (v := ?_) (a' := ?_) #[true, true, true, true, true, true, true, false, false, false, false, false] rfl rfl (by kernel_rfl) (fun _ _ _ h => h) (Or.inl ⟨by rfl, ?_⟩) hHeld ?_ ?_
        rotate_left
        · rintro w' ⟨s0, s1⟩
          go_simp
          with_reducible rfl
        rotate_left
        · simp only [Act.put, List.setIfInBounds_toArray, List.set_cons_zero, List.set_cons_succ, i64_w, i32_w]
          rfl
        refine one_ (i := 7) (N := some 48) #[true, true, true, true, true, true, true, true, false, false, false, false] rfl rfl (by kernel_rfl) (by decide) (fun K hK => ?_)
        refine goesC_ (cap := #[.pointer (some ⟨gs, 0, none⟩), .pointer (some ⟨ct, 0, none⟩), .pointer (some ⟨go, 0, none⟩)]) Try.func58 (by kernel_rfl) rfl #[.int .i64 key, .pointer (some ⟨gs, 0, none⟩), .pointer (some ⟨ct, 0, none⟩), .pointer (some ⟨go, 0, none⟩)] (by rfl) rfl rfl (by rfl) (by simp only [List.map_toArray, List.map_cons, List.map_nil]; rfl) ?_
        with_reducible refine (text_fn w0 wr.drew gs go gk mt ct mo co gw gf tA oA bA tc oc bc s B v1 v2 v3 vw2 ros rbs L key (hB.out.new hwd.out) hBok.out hVA.out (h0w.out.trans hwd.out (fun _ _ h => h)) hn).mono ?_
        rintro e w1 ⟨v1', rfl, hB1, hT1⟩
        refine ⟨.int .i64 (numT s B key).1, rfl, ?_⟩
        replace hT1 := Turn2.new_then hwd.out hT1
        have hX1 := Aside0.mk (hB.out.blk hT1 hX.out (by decide))
        have h0v : Aside0 (Chg (fun _ => False) w0 w1) := ⟨Turn2.chg h0w.out hT1⟩
        have hQ1 := Aside0.mk (ow_turn2 hQ.out hT1 (fun j h1 h2 => ow_blk_ne hQ.out (h2 ▸ hB.out.qo) (by decide) h1) (by decide) hAp.out)
        replace hB1 := Aside0.mk hB1
        replace hT1 := Aside0.mk hT1
        have hRd := own_new0 hQ1.out.1
        have hCd : Aside0 (Chg (fun b => (svl (qA, qN, qC)).ownBlock = some b) w1 w1) := ⟨Chg.refl _ _⟩
        have x0v := cell_chg0 x0w h0v.out
        refine hK.out _ _ ⟨(blk_cell hX1.out 2), x0v⟩ (fun hHeld => ?_)
        clear hK K
        refine norm_ (a' := ?_) ?_ ?_
        rotate_left
        · show Act.put _ (some 48) _ = _
          simp only [Act.put, List.setIfInBounds_toArray, List.set_cons_zero, List.set_cons_succ, i64_w, i32_w]
          rfl
        refine one_ (i := 8) (N := some 49) #[true, true, true, true, true, true, true, true, true, false, false, false] rfl rfl (by kernel_rfl) (by decide) (fun K hK => ?_)
        refine value_ (w1 := ?_) (v := ?_) (by rfl) rfl ?_ ?_
        rotate_left 2
        · go_simp
          constructor
          · rfl
          · rfl
        refine hK.out _ _ ⟨(cellQ hHeld.1 _), (cellQ hHeld.2 _)⟩ (fun hHeld => ?_)
        clear hK K
        refine norm_ (a' := ?_) ?_ ?_
        rotate_left
        · show Act.put _ (some 49) _ = _
          simp only [Act.put, List.setIfInBounds_toArray, List.set_cons_zero, List.set_cons_succ, i64_w, i32_w]
          rfl
        refine one_ (i := 9) (N := some 50) #[true, true, true, true, true, true, true, true, true, true, false, false] rfl rfl (by kernel_rfl) (by decide) (fun K hK => ?_)
        refine app1T (Kd.int .i64) (by rfl) (.tmp 42) (.tmp 49) (by rfl) Try.underlying57 infoI8 rfl (by decide) (by decide) (numT s B key).1 (by rfl) (by rfl) rfl hRd hCd hlk ?_
        intro v9 w2 hr2 hc2
        obtain ⟨zA, zN, zC, rfl⟩ := R_sl hr2.out
        have hX2 := Aside0.mk (hc2.out.blk hX1.out (fun e => ow_blk_ne hQ1.out hX1.out (by decide) e))
        have cx2 := blk_cell hX2.out 2
        have fx2 := blk_frozen hX2.out 2
        refine hK.out _ _ ⟨cx2, (cell_keepQ hc2.out (fun e => hno2.out e) x0v)⟩ (fun hHeld => ?_)
        clear hK K
        refine norm_ (a' := ?_) ?_ ?_
        rotate_left
        · show Act.put _ (some 50) _ = _
          simp only [Act.put, List.setIfInBounds_toArray, List.set_cons_zero, List.set_cons_succ, i64_w, i32_w]
          rfl
        refine pure_ (i := 10) (N := some 51) (v := ?_) (a' := ?_) #[true, true, true, true, true, true, true, true, true, true, true, false] rfl rfl (by kernel_rfl) (fun _ _ _ h => h) (Or.inl ⟨by rfl, ?_⟩) ?_ ?_
        rotate_left
        · intro w'
          go_simp
          with_reducible rfl
        rotate_left
        · simp only [Act.put, List.setIfInBounds_toArray, List.set_cons_zero, List.set_cons_succ, i64_w, i32_w]
          rfl
        refine last_ (i := 11) (N := none) #[true, true, true, true, true, true, true, true, true, true, true, true] rfl rfl (by kernel_rfl) (by decide) (fun K hK => ?_)
        refine skip_ (w1 := ?_) (by rfl) rfl ?_ ?_
        rotate_left
        · go_simp
          rfl
        refine hK.out _ _ ?_
        clear hK K
        refine done_ (by kernel_rfl) ?_
        have hlo1 : w.heap.size ≤ w1.heap.size := Nat.le_trans hT.out.size hT1.out.size
        have hQ2 := Ow.app (v1 := (zA, zN, zC)) rfl hQ1.out hr2.out hlo1
        have hO1 := ow_turn2 hO.out hT1.out (fun j h1 h2 => ow_blk_ne hO.out (h2 ▸ hB.out.qo) (by decide) h1) (by decide) (apart_typ hB.out.rk hO.out (by decide))
        have hO2 := hO1.chg hc2.out (fun j h1 h2 => Ow.ne hO1 hQ1.out (by decide) j h1 h2)
        have hB2 := hB1.out.row64 hQ1.out (hT1.out.apart hQ.out hAp.out) hc2.out
        have hR1 := hB.out.blk hT1.out hR.out (by decide)
        have hR2 := hc2.out.blk hR1 (fun e => ow_blk_ne hQ1.out hR1 (by decide) e)
        have hT2 := (hT.out.trans hT1.out).then_own hc2.out (fun j hj => hQ1.out.2 j hj)
        have hAp2 : apart vw2 (zA, zN, zC) := fun j h1 h2 => by
          rcases hr2.out.1 j h2 with h3 | h3
          · exact hAp.out j h1 h3
          · have := hB1.out.rk.lt j h1; omega
        replace hB2 := hB2.set (i := 2) (u := .slice zA zN zC) hX2.out (by decide)
        replace hQ2 := ow_set (i := 2) (u := .slice zA zN zC) hQ2 hX2.out (by decide)
        replace hO2 := ow_set (i := 2) (u := .slice zA zN zC) hO2 hX2.out (by decide)
        replace hR2 := blk_setne (g := w.heap.size) (i := 2) (u := .slice zA zN zC) hR2 (by omega)
        replace hT2 := hT2.set (g := w.heap.size) (i := 2) (u := .slice zA zN zC) (Nat.le_refl _)
        have hX3 := blk_set hX2.out 2 (.slice zA zN zC)
        generalize hW : World.setCell w2 _ _ = W at hB2 hQ2 hO2 hR2 hT2 hX3 ⊢
        simp only [List.setIfInBounds_toArray, List.set_cons_zero, List.set_cons_succ] at hX3
        clear hW hX1 hRd hCd hX2 cx2 fx2 hr2 hc2 hB1 hT1 hQ1 hO1 hR1 hX hO hQ hB hT hR hAp q2 x0 x0v h0v h0w hHeld
        have hX := Aside0.mk hX3
        have hO := Aside0.mk hO2
        have hQ := Aside0.mk hQ2
        have hB := Aside0.mk hB2
        have hT := Aside0.mk hT2
        have hR := Aside0.mk hR2
        have hAp := Aside0.mk hAp2
        clear hX3 hO2 hQ2 hB2 hT2 hR2 hAp2
        have h0W : Aside0 (Chg (fun _ => False) w0 W) := ⟨Turn2.chg h0A.out hT.out⟩
        have hWd : Aside0 (Chg (fun _ => False) W W.drew) := ⟨(Chg.refl (fun _ => False) _).drew⟩
        obtain ⟨bd, yk, yn, e3, e4, y0w, y1w⟩ := kQV_at hiA.out k hk2
        subst e3
        have hno3 : Aside0 (¬ (svl (vA, vN, vC)).ownBlock = some (bd.add (k * 2)).block) := ⟨fun e => by
          have h1 := World.block_lt_of_cell? w0 _ y0w
          have h2 := hO.out.2 _ e
          have h3 := h0A.out.size
          omega⟩
        have y0 := cell_chg0 y0w h0W.out
        have y1 := cell_chg0 y1w h0W.out
        have q1 : W.cell? ⟨w.heap.size, 1, none⟩ = some (.slice vA vN vC) := blk_cell hX.out 1
        have hyn : Aside0 ((⟨yk, yn⟩ : QV).n ≤ 9223372036854775807) := ⟨hnA.out _ (List.mem_of_getElem? e4)⟩
        have hitm := Aside0.mk e4
        clear e4
        have hk21 : (k : Int) < its.length := by omega
        go_upto_region 12 with (fail)
        (try simp only [Act.put, List.setIfInBounds_toArray, List.set_cons_zero, List.set_cons_succ])
        refine start_ (n := 12) (S := fun w' => w'.cell? ⟨w.heap.size, 1, none⟩ = some (.slice vA vN vC) ∧ w'.cell? (bd.add (k * 2)) = some (.int .i64 yk) ∧ w'.cell? ⟨(bd.add (k * 2)).block, (bd.add (k * 2)).off + 1, none⟩ = some (.int .i64 yn)) (ds := [11]) #[false, false, false, false, false, false, false, false, false, false, false, false] (by kernel_rfl) rfl rfl ⟨q1, y0, y1⟩ (fun hHeld => ?_)
        refine pure_ (i := 0) (N := some 56) (v := ?_) (a' := ?_) #[true, false, false, false, false, false, false, false, false, false, false, false] rfl rfl (by kernel_rfl) (fun _ _ _ h => h) (Or.inl ⟨by rfl, ?_⟩) ?_ ?_
        rotate_left
        · intro w'
          go_simp
          with_reducible rfl
        rotate_left
        · simp only [Act.put, List.setIfInBounds_toArray, List.set_cons_zero, List.set_cons_succ, i64_w, i32_w]
          rfl
        refine pure_ (i := 2) (N := some 58) (v := ?_) (a' := ?_) #[true, false, true, false, false, false, false, false, false, false, false, false] rfl rfl (by kernel_rfl) (fun _ _ _ h => h) (Or.inl ⟨by rfl, ?_⟩) ?_ ?_
        rotate_left
        · intro w'
          go_simp
          with_reducible rfl
        rotate_left
        · simp only [Act.put, List.setIfInBounds_toArray, List.set_cons_zero, List.set_cons_succ, i64_w, i32_w]
          rfl
        refine pure_ (i := 3) (N := some 59) (v := ?_) (a' := ?_) #[true, false, true, true, false, false, false, false, false, false, false, false] rfl rfl (by kernel_rfl) (fun _ _ _ h => h) (Or.inl ⟨by rfl, ?_⟩) ?_ ?_
        rotate_left
        · intro w'
          go_simp
          with_reducible rfl
        rotate_left
        · simp only [Act.put, List.setIfInBounds_toArray, List.set_cons_zero, List.set_cons_succ, i64_w, i32_w]
          rfl
        refine pure_ (i := 4) (N := some 60) (v := ?_) (a' := ?_) #[true, false, true, true, true, false, false, false, false, false, false, false] rfl rfl (by kernel_rfl) (fun _ _ _ h => h) (Or.inl ⟨by rfl, ?_⟩) ?_ ?_
        rotate_left
        · intro w'
          go_simp
          with_reducible rfl
        rotate_left
        · simp only [Act.put, List.setIfInBounds_toArray, List.set_cons_zero, List.set_cons_succ, i64_w, i32_w]
          rfl
        refine pure_ (i := 5) (N := some 61) (v := ?_) (a' := ?_) #[true, false, true, true, true, true, false, false, false, false, false, false] rfl rfl (by kernel_rfl) (fun _ _ _ h => h) (Or.inl ⟨by rfl, ?_⟩) ?_ ?_
        rotate_left
        · intro w'
          go_simp
          with_reducible rfl
        rotate_left
        · simp only [Act.put, List.setIfInBounds_toArray, List.set_cons_zero, List.set_cons_succ, i64_w, i32_w]
          rfl
        refine take_ (i := 1) (N := some 57) (v := ?_) (a' := ?_) #[true, true, true, true, true, true, false, false, false, false, false, false] rfl rfl (by kernel_rfl) (fun _ _ _ h => h) (Or.inl ⟨by rfl, ?_⟩) hHeld ?_ ?_
        rotate_left
        · rintro w' ⟨s0, s1, s2⟩
          go_simp
          with_reducible rfl
        rotate_left
        · simp only [Act.put, List.setIfInBounds_toArray, List.set_cons_zero, List.set_cons_succ, i64_w, i32_w]
          rfl
        refine take_ (i := 6) (N := some 62) (v := ?_) (a' := ?_) #[true, true, true, true, true, true, true, false, false, false, false, false] rfl rfl (by kernel_rfl) (fun _ _ _ h => h) (Or.inl ⟨by rfl, ?_⟩) hHeld ?_ ?_
        rotate_left
        · rintro w' ⟨s0, s1, s2⟩
          go_simp
          with_reducible rfl
        rotate_left
        · simp only [Act.put, List.setIfInBounds_toArray, List.set_cons_zero, List.set_cons_succ, i64_w, i32_w]
          rfl
        refine one_ (i := 7) (N := some 63) #[true, true, true, true, true, true, true, true, false, false, false, false] rfl rfl (by kernel_rfl) (by decide) (fun K hK => ?_)
        refine goesC_ (cap := #[.pointer (some ⟨gf, 0, none⟩), .pointer (some ⟨gk, 0, none⟩), .pointer (some ⟨co, 0, none⟩), .pointer (some ⟨gw, 0, none⟩)]) Try.func59 (by kernel_rfl) rfl #[.agg #[.int .i64 yk, .int .i64 yn], .pointer (some ⟨gf, 0, none⟩), .pointer (some ⟨gk, 0, none⟩), .pointer (some ⟨co, 0, none⟩), .pointer (some ⟨gw, 0, none⟩)] (by rfl) rfl rfl (by rfl) (by simp only [List.map_toArray, List.map_cons, List.map_nil]; rfl) ?_
        with_reducible refine (value_fn w0 W.drew gs go gk mt ct mo co gw gf tA oA bA tc oc bc s (numT s B key).2 v1' v2 v3 vw2 ros rbs L ⟨yk, yn⟩ (hB.out.new hWd.out) hBok2.out hVA.out (h0W.out.trans hWd.out (fun _ _ h => h)) hn hno hyn.out).mono ?_
        rintro e w5 ⟨v1'', vw', rfl, hB5, hT5⟩
        refine ⟨.agg #[.int .i64 (numV s (numT s B key).2 ⟨yk, yn⟩).1.kind, .int .i64 (numV s (numT s B key).2 ⟨yk, yn⟩).1.n], rfl, ?_⟩
        replace hT5 := Turn2.new_then hWd.out hT5
        have hX5 := Aside0.mk (hB.out.blk hT5 hX.out (by decide))
        have h0v : Aside0 (Chg (fun _ => False) w0 w5) := ⟨Turn2.chg h0W.out hT5⟩
        have hO5 := Aside0.mk (ow_turn2 hO.out hT5 (fun j h1 h2 => ow_blk_ne hO.out (h2 ▸ hB.out.qo) (by decide) h1) (by decide) (apart_typ hB.out.rk hO.out (by decide)))
        replace hB5 := Aside0.mk hB5
        replace hT5 := Aside0.mk hT5
        have hRd := own_new0 hO5.out.1
        have hCd : Aside0 (Chg (fun b => (svl (vA, vN, vC)).ownBlock = some b) w5 w5) := ⟨Chg.refl _ _⟩
        have y0v := cell_chg0 y0w h0v.out
        have y1v := cell_chg0 y1w h0v.out
        refine hK.out _ _ ⟨(blk_cell hX5.out 1), y0v, y1v⟩ (fun hHeld => ?_)
        clear hK K
        refine norm_ (a' := ?_) ?_ ?_
        rotate_left
        · show Act.put _ (some 63) _ = _
          simp only [Act.put, List.setIfInBounds_toArray, List.set_cons_zero, List.set_cons_succ, i64_w, i32_w]
          rfl
        refine one_ (i := 8) (N := some 64) #[true, true, true, true, true, true, true, true, true, false, false, false] rfl rfl (by kernel_rfl) (by decide) (fun K hK => ?_)
        refine value_ (w1 := ?_) (v := ?_) (by rfl) rfl ?_ ?_
        rotate_left 2
        · go_simp
          constructor
          · rfl
          · rfl
        refine hK.out _ _ ⟨(cellQ hHeld.1 _), (cellQ hHeld.2.1 _), (cellQ hHeld.2.2 _)⟩ (fun hHeld => ?_)
        clear hK K
        refine norm_ (a' := ?_) ?_ ?_
        rotate_left
        · show Act.put _ (some 64) _ = _
          simp only [Act.put, List.setIfInBounds_toArray, List.set_cons_zero, List.set_cons_succ, i64_w, i32_w]
          rfl
        refine one_ (i := 9) (N := some 65) #[true, true, true, true, true, true, true, true, true, true, false, false] rfl rfl (by kernel_rfl) (by decide) (fun K hK => ?_)
        refine app1T kQV (by rfl) (.tmp 57) (.tmp 64) (by rfl) Try.underlying52 infoQV rfl (by decide) (by decide) (numV s (numT s B key).2 ⟨yk, yn⟩).1 (by rfl) (by rfl) (kQV_M _ _ _ _) hRd hCd hli ?_
        intro v9 w6 hr6 hc6
        obtain ⟨uA, uN, uC, rfl⟩ := R_sl hr6.out
        have hX6 := Aside0.mk (hc6.out.blk hX5.out (fun e => ow_blk_ne hO5.out hX5.out (by decide) e))
        have cx6 := blk_cell hX6.out 1
        have fx6 := blk_frozen hX6.out 1
        refine hK.out _ _ ⟨cx6, (cell_keepQ hc6.out (fun e => hno3.out e) y0v), (cell_keepQ hc6.out (fun e => hno3.out e) y1v)⟩ (fun hHeld => ?_)
        clear hK K
        refine norm_ (a' := ?_) ?_ ?_
        rotate_left
        · show Act.put _ (some 65) _ = _
          simp only [Act.put, List.setIfInBounds_toArray, List.set_cons_zero, List.set_cons_succ, i64_w, i32_w]
          rfl
        refine pure_ (i := 10) (N := some 66) (v := ?_) (a' := ?_) #[true, true, true, true, true, true, true, true, true, true, true, false] rfl rfl (by kernel_rfl) (fun _ _ _ h => h) (Or.inl ⟨by rfl, ?_⟩) ?_ ?_
        rotate_left
        · intro w'
          go_simp
          with_reducible rfl
        rotate_left
        · simp only [Act.put, List.setIfInBounds_toArray, List.set_cons_zero, List.set_cons_succ, i64_w, i32_w]
          rfl
        refine last_ (i := 11) (N := none) #[true, true, true, true, true, true, true, true, true, true, true, true] rfl rfl (by kernel_rfl) (by decide) (fun K hK => ?_)
        refine skip_ (w1 := ?_) (by rfl) rfl ?_ ?_
        rotate_left
        · go_simp
          rfl
        refine hK.out _ _ ?_
        clear hK K
        refine done_ (by kernel_rfl) ?_
        go_wp2
        go_roundw
        case measure => first | (simp [intOf]; done) | (simp [intOf]; omega)
        case rel =>
          have hlo5 : w.heap.size ≤ w5.heap.size := Nat.le_trans hT.out.size hT5.out.size
          have hO6 := Ow.app (v1 := (uA, uN, uC)) rfl hO5.out hr6.out hlo5
          have hQ5 := ow_turn2 hQ.out hT5.out (fun j h1 h2 => ow_blk_ne hQ.out (h2 ▸ hB.out.qo) (by decide) h1) (by decide) hAp.out
          have hQ6 := hQ5.chg hc6.out (fun j h1 h2 => Ow.ne hQ5 hO5.out (by decide) j h1 h2)
          have hB6 := hB5.out.row hO5.out (by decide) hc6.out
          have hR5 := hB.out.blk hT5.out hR.out (by decide)
          have hR6 := hc6.out.blk hR5 (fun e => ow_blk_ne hO5.out hR5 (by decide) e)
          have hT6 := (hT.out.trans hT5.out).then_own hc6.out (fun j hj => hO5.out.2 j hj)
          have hAp6 := hT5.out.apart hQ.out hAp.out
          refine ⟨k + 1, uA, zA, uN, uC, zN, zC, v1'', vw', by go_num, by omega, ⟨?_⟩, ⟨blk_setne hR6 (by omega)⟩, ⟨?_⟩, ⟨?_⟩, ⟨hAp6⟩, ⟨?_⟩, ⟨hT6.set (Nat.le_refl _)⟩⟩
          · exact blk_set hX6.out 1 (.slice uA uN uC)
          · rw [hF.out, hitm.out]; exact ow_set hO6 hX6.out (by decide)
          · rw [hF.out, hitm.out]; exact ow_set hQ6 hX6.out (by decide)
          · rw [hF.out, hitm.out]; exact hB6.set hX6.out (by decide)
      · go_upto_region 10 with (fail)
        (try simp only [Act.put, List.setIfInBounds_toArray, List.set_cons_zero, List.set_cons_succ])
        refine start_ (n := 12) (S := fun w' => w'.cell? ⟨w.heap.size, 2, none⟩ = some (.slice qA qN qC) ∧ w'.cell? (ad.add k) = some (.int .i64 key)) (ds := [11]) #[false, false, false, false, false, false, false, false, false, false, false, false] (by kernel_rfl) rfl rfl ⟨q2, x0⟩ (fun hHeld => ?_)
        refine pure_ (i := 0) (N := some 41) (v := ?_) (a' := ?_) #[true, false, false, false, false, false, false, false, false, false, false, false] rfl rfl (by kernel_rfl) (fun _ _ _ h => h) (Or.inl ⟨by rfl, ?_⟩) ?_ ?_
        rotate_left
        · intro w'
          go_simp
          with_reducible rfl
        rotate_left
        · simp only [Act.put, List.setIfInBounds_toArray, List.set_cons_zero, List.set_cons_succ, i64_w, i32_w]
          rfl
        refine pure_ (i := 2) (N := some 43) (v := ?_) (a' := ?_) #[true, false, true, false, false, false, false, false, false, false, false, false] rfl rfl (by kernel_rfl) (fun _ _ _ h => h) (Or.inl ⟨by rfl, ?_⟩) ?_ ?_
        rotate_left
        · intro w'
          go_simp
          with_reducible rfl
        rotate_left
        · simp only [Act.put, List.setIfInBounds_toArray, List.set_cons_zero, List.set_cons_succ, i64_w, i32_w]
          rfl
        refine pure_ (i := 3) (N := some 44) (v := ?_) (a' := ?_) #[true, false, true, true, false, false, false, false, false, false, false, false] rfl rfl (by kernel_rfl) (fun _ _ _ h => h) (Or.inl ⟨by rfl, ?_⟩) ?_ ?_
        rotate_left
        · intro w'
          go_simp
          with_reducible rfl
        rotate_left
        · simp only [Act.put, List.setIfInBounds_toArray, List.set_cons_zero, List.set_cons_succ, i64_w, i32_w]
          rfl
        refine pure_ (i := 4) (N := some 45) (v := ?_) (a' := ?_) #[true, false, true, true, true, false, false, false, false, false, false, false] rfl rfl (by kernel_rfl) (fun _ _ _ h => h) (Or.inl ⟨by rfl, ?_⟩) ?_ ?_
        rotate_left
        · intro w'
          go_simp
          with_reducible rfl
        rotate_left
        · simp only [Act.put, List.setIfInBounds_toArray, List.set_cons_zero, List.set_cons_succ, i64_w, i32_w]
          rfl
        refine pure_ (i := 5) (N := some 46) (v := ?_) (a' := ?_) #[true, false, true, true, true, true, false, false, false, false, false, false] rfl rfl (by kernel_rfl) (fun _ _ _ h => h) (Or.inl ⟨by rfl, ?_⟩) ?_ ?_
        rotate_left
        · intro w'
          go_simp
          with_reducible rfl
        rotate_left
        · simp only [Act.put, List.setIfInBounds_toArray, List.set_cons_zero, List.set_cons_succ, i64_w, i32_w]
          rfl
        refine take_ (i := 1) (N := some 42) (v := ?_) (a' := ?_) #[true, true, true, true, true, true, false, false, false, false, false, false] rfl rfl (by kernel_rfl) (fun _ _ _ h => h) (Or.inl ⟨by rfl, ?_⟩) hHeld ?_ ?_
        rotate_left
        · rintro w' ⟨s0, s1⟩
          go_simp
          with_reducible rfl
        rotate_left
        · simp only [Act.put, List.setIfInBounds_toArray, List.set_cons_zero, List.set_cons_succ, i64_w, i32_w]
          rfl
        refine take_ (i := 6) (N := some 47) (v := ?_) (a' := ?_) #[true, true, true, true, true, true, true, false, false, false, false, false] rfl rfl (by kernel_rfl) (fun _ _ _ h => h) (Or.inl ⟨by rfl, ?_⟩) hHeld ?_ ?_
        rotate_left
        · rintro w' ⟨s0, s1⟩
          go_simp
          with_reducible rfl
        rotate_left
        · simp only [Act.put, List.setIfInBounds_toArray, List.set_cons_zero, List.set_cons_succ, i64_w, i32_w]
          rfl
        refine one_ (i := 7) (N := some 48) #[true, true, true, true, true, true, true, true, false, false, false, false] rfl rfl (by kernel_rfl) (by decide) (fun K hK => ?_)
        refine goesC_ (cap := #[.pointer (some ⟨gs, 0, none⟩), .pointer (some ⟨ct, 0, none⟩), .pointer (some ⟨go, 0, none⟩)]) Try.func58 (by kernel_rfl) rfl #[.int .i64 key, .pointer (some ⟨gs, 0, none⟩), .pointer (some ⟨ct, 0, none⟩), .pointer (some ⟨go, 0, none⟩)] (by rfl) rfl rfl (by rfl) (by simp only [List.map_toArray, List.map_cons, List.map_nil]; rfl) ?_
        with_reducible refine (text_fn w0 wr.drew gs go gk mt ct mo co gw gf tA oA bA tc oc bc s B v1 v2 v3 vw2 ros rbs L key (hB.out.new hwd.out) hBok.out hVA.out (h0w.out.trans hwd.out (fun _ _ h => h)) hn).mono ?_
        rintro e w1 ⟨v1', rfl, hB1, hT1⟩
        refine ⟨.int .i64 (numT s B key).1, rfl, ?_⟩
        replace hT1 := Turn2.new_then hwd.out hT1
        have hX1 := Aside0.mk (hB.out.blk hT1 hX.out (by decide))
        have h0v : Aside0 (Chg (fun _ => False) w0 w1) := ⟨Turn2.chg h0w.out hT1⟩
        have hQ1 := Aside0.mk (ow_turn2 hQ.out hT1 (fun j h1 h2 => ow_blk_ne hQ.out (h2 ▸ hB.out.qo) (by decide) h1) (by decide) hAp.out)
        replace hB1 := Aside0.mk hB1
        replace hT1 := Aside0.mk hT1
        have hRd := own_new0 hQ1.out.1
        have hCd : Aside0 (Chg (fun b => (svl (qA, qN, qC)).ownBlock = some b) w1 w1) := ⟨Chg.refl _ _⟩
        have x0v := cell_chg0 x0w h0v.out
        refine hK.out _ _ ⟨(blk_cell hX1.out 2), x0v⟩ (fun hHeld => ?_)
        clear hK K
        refine norm_ (a' := ?_) ?_ ?_
        rotate_left
        · show Act.put _ (some 48) _ = _
          simp only [Act.put, List.setIfInBounds_toArray, List.set_cons_zero, List.set_cons_succ, i64_w, i32_w]
          rfl
        refine one_ (i := 8) (N := some 49) #[true, true, true, true, true, true, true, true, true, false, false, false] rfl rfl (by kernel_rfl) (by decide) (fun K hK => ?_)
        refine value_ (w1 := ?_) (v := ?_) (by rfl) rfl ?_ ?_
        rotate_left 2
        · go_simp
          constructor
          · rfl
          · rfl
        refine hK.out _ _ ⟨(cellQ hHeld.1 _), (cellQ hHeld.2 _)⟩ (fun hHeld => ?_)
        clear hK K
        refine norm_ (a' := ?_) ?_ ?_
        rotate_left
        · show Act.put _ (some 49) _ = _
          simp only [Act.put, List.setIfInBounds_toArray, List.set_cons_zero, List.set_cons_succ, i64_w, i32_w]
          rfl
        refine one_ (i := 9) (N := some 50) #[true, true, true, true, true, true, true, true, true, true, false, false] rfl rfl (by kernel_rfl) (by decide) (fun K hK => ?_)
        refine app1T (Kd.int .i64) (by rfl) (.tmp 42) (.tmp 49) (by rfl) Try.underlying57 infoI8 rfl (by decide) (by decide) (numT s B key).1 (by rfl) (by rfl) rfl hRd hCd hlk ?_
        intro v9 w2 hr2 hc2
        obtain ⟨zA, zN, zC, rfl⟩ := R_sl hr2.out
        have hX2 := Aside0.mk (hc2.out.blk hX1.out (fun e => ow_blk_ne hQ1.out hX1.out (by decide) e))
        have cx2 := blk_cell hX2.out 2
        have fx2 := blk_frozen hX2.out 2
        refine hK.out _ _ ⟨cx2, (cell_keepQ hc2.out (fun e => hno2.out e) x0v)⟩ (fun hHeld => ?_)
        clear hK K
        refine norm_ (a' := ?_) ?_ ?_
        rotate_left
        · show Act.put _ (some 50) _ = _
          simp only [Act.put, List.setIfInBounds_toArray, List.set_cons_zero, List.set_cons_succ, i64_w, i32_w]
          rfl
        refine pure_ (i := 10) (N := some 51) (v := ?_) (a' := ?_) #[true, true, true, true, true, true, true, true, true, true, true, false] rfl rfl (by kernel_rfl) (fun _ _ _ h => h) (Or.inl ⟨by rfl, ?_⟩) ?_ ?_
        rotate_left
        · intro w'
          go_simp
          with_reducible rfl
        rotate_left
        · simp only [Act.put, List.setIfInBounds_toArray, List.set_cons_zero, List.set_cons_succ, i64_w, i32_w]
          rfl
        refine last_ (i := 11) (N := none) #[true, true, true, true, true, true, true, true, true, true, true, true] rfl rfl (by kernel_rfl) (by decide) (fun K hK => ?_)
        refine skip_ (w1 := ?_) (by rfl) rfl ?_ ?_
        rotate_left
        · go_simp
          rfl
        refine hK.out _ _ ?_
        clear hK K
        refine done_ (by kernel_rfl) ?_
        have hlo1 : w.heap.size ≤ w1.heap.size := Nat.le_trans hT.out.size hT1.out.size
        have hQ2 := Ow.app (v1 := (zA, zN, zC)) rfl hQ1.out hr2.out hlo1
        have hO1 := ow_turn2 hO.out hT1.out (fun j h1 h2 => ow_blk_ne hO.out (h2 ▸ hB.out.qo) (by decide) h1) (by decide) (apart_typ hB.out.rk hO.out (by decide))
        have hO2 := hO1.chg hc2.out (fun j h1 h2 => Ow.ne hO1 hQ1.out (by decide) j h1 h2)
        have hB2 := hB1.out.row64 hQ1.out (hT1.out.apart hQ.out hAp.out) hc2.out
        have hR1 := hB.out.blk hT1.out hR.out (by decide)
        have hR2 := hc2.out.blk hR1 (fun e => ow_blk_ne hQ1.out hR1 (by decide) e)
        have hT2 := (hT.out.trans hT1.out).then_own hc2.out (fun j hj => hQ1.out.2 j hj)
        have hAp2 : apart vw2 (zA, zN, zC) := fun j h1 h2 => by
          rcases hr2.out.1 j h2 with h3 | h3
          · exact hAp.out j h1 h3
          · have := hB1.out.rk.lt j h1; omega
        replace hB2 := hB2.set (i := 2) (u := .slice zA zN zC) hX2.out (by decide)
        replace hQ2 := ow_set (i := 2) (u := .slice zA zN zC) hQ2 hX2.out (by decide)
        replace hO2 := ow_set (i := 2) (u := .slice zA zN zC) hO2 hX2.out (by decide)
        replace hR2 := blk_setne (g := w.heap.size) (i := 2) (u := .slice zA zN zC) hR2 (by omega)
        replace hT2 := hT2.set (g := w.heap.size) (i := 2) (u := .slice zA zN zC) (Nat.le_refl _)
        have hX3 := blk_set hX2.out 2 (.slice zA zN zC)
        generalize hW : World.setCell w2 _ _ = W at hB2 hQ2 hO2 hR2 hT2 hX3 ⊢
        simp only [List.setIfInBounds_toArray, List.set_cons_zero, List.set_cons_succ] at hX3
        clear hW hX1 hRd hCd hX2 cx2 fx2 hr2 hc2 hB1 hT1 hQ1 hO1 hR1 hX hO hQ hB hT hR hAp q2 x0 x0v h0v h0w hHeld
        have hX := Aside0.mk hX3
        have hO := Aside0.mk hO2
        have hQ := Aside0.mk hQ2
        have hB := Aside0.mk hB2
        have hT := Aside0.mk hT2
        have hR := Aside0.mk hR2
        have hAp := Aside0.mk hAp2
        clear hX3 hO2 hQ2 hB2 hT2 hR2 hAp2
        have hk21 : ¬ ((k : Int) < its.length) := by omega
        have hitm : Aside0 (its[k]? = none) := ⟨List.getElem?_eq_none (by omega)⟩
        go_wp2
        go_roundw
        case measure => first | (simp [intOf]; done) | (simp [intOf]; omega)
        case rel =>
          refine ⟨k + 1, vA, zA, vN, vC, zN, zC, v1', vw2, by go_num, by omega, hX, hR, ⟨?_⟩, ⟨?_⟩, hAp, ⟨?_⟩, hT⟩
          · rw [hF.out, hitm.out]; exact hO.out
          · rw [hF.out, hitm.out]; exact hQ.out
          · rw [hF.out, hitm.out]; exact hB.out
    · by_cases hk2 : k < its.length
      · have hkm : (k : Int) < max (ks.length : Int) (its.length : Int) := by omega
        have hk11 : ¬ ((k : Int) < ks.length) := by omega
        have hke : ks[k]? = none := List.getElem?_eq_none (by omega)
        generalize fieldsS s b ks its k = a at hF hBok hO hQ hB hli hlk
        obtain ⟨⟨xs, ys⟩, B⟩ := a
        simp only [fieldS, hke] at hF
        simp only at hBok hO hQ hB hli hlk
        have hBok2 : Aside0 (BkOk s B) := hBok
        clear hke hcnt
        have h0W : Aside0 (Chg (fun _ => False) w0 wr) := ⟨Turn2.chg h0A.out hT.out⟩
        have hWd : Aside0 (Chg (fun _ => False) wr wr.drew) := ⟨(Chg.refl (fun _ => False) _).drew⟩
        obtain ⟨bd, yk, yn, e3, e4, y0w, y1w⟩ := kQV_at hiA.out k hk2
        subst e3
        have hno3 : Aside0 (¬ (svl (vA, vN, vC)).ownBlock = some (bd.add (k * 2)).block) := ⟨fun e => by
          have h1 := World.block_lt_of_cell? w0 _ y0w
          have h2 := hO.out.2 _ e
          have h3 := h0A.out.size
          omega⟩
        have y0 := cell_chg0 y0w h0W.out
        have y1 := cell_chg0 y1w h0W.out
        have q1 : wr.cell? ⟨w.heap.size, 1, none⟩ = some (.slice vA vN vC) := blk_cell hX.out 1
        have hyn : Aside0 ((⟨yk, yn⟩ : QV).n ≤ 9223372036854775807) := ⟨hnA.out _ (List.mem_of_getElem? e4)⟩
        have hitm := Aside0.mk e4
        clear e4
        have hk21 : (k : Int) < its.length := by omega
        go_upto_region 12 with (fail)
        (try simp only [Act.put, List.setIfInBounds_toArray, List.set_cons_zero, List.set_cons_succ])
        refine start_ (n := 12) (S := fun w' => w'.cell? ⟨w.heap.size, 1, none⟩ = some (.slice vA vN vC) ∧ w'.cell? (bd.add (k * 2)) = some (.int .i64 yk) ∧ w'.cell? ⟨(bd.add (k * 2)).block, (bd.add (k * 2)).off + 1, none⟩ = some (.int .i64 yn)) (ds := [11]) #[false, false, false, false, false, false, false, false, false, false, false, false] (by kernel_rfl) rfl rfl ⟨q1, y0, y1⟩ (fun hHeld => ?_)
        refine pure_ (i := 0) (N := some 56) (v := ?_) (a' := ?_) #[true, false, false, false, false, false, false, false, false, false, false, false] rfl rfl (by kernel_rfl) (fun _ _ _ h => h) (Or.inl ⟨by rfl, ?_⟩) ?_ ?_
        rotate_left
        · intro w'
          go_simp
          with_reducible rfl
        rotate_left
        · simp only [Act.put, List.setIfInBounds_toArray, List.set_cons_zero, List.set_cons_succ, i64_w, i32_w]
          rfl
        refine pure_ (i := 2) (N := some 58) (v := ?_) (a' := ?_) #[true, false, true, false, false, false, false, false, false, false, false, false] rfl rfl (by kernel_rfl) (fun _ _ _ h => h) (Or.inl ⟨by rfl, ?_⟩) ?_ ?_
        rotate_left
        · intro w'
          go_simp
          with_reducible rfl
        rotate_left
        · simp only [Act.put, List.setIfInBounds_toArray, List.set_cons_zero, List.set_cons_succ, i64_w, i32_w]
          rfl
        refine pure_ (i := 3) (N := some 59) (v := ?_) (a' := ?_) #[true, false, true, true, false, false, false, false, false, false, false, false] rfl rfl (by kernel_rfl) (fun _ _ _ h => h) (Or.inl ⟨by rfl, ?_⟩) ?_ ?_
        rotate_left
        · intro w'
          go_simp
          with_reducible rfl
        rotate_left
        · simp only [Act.put, List.setIfInBounds_toArray, List.set_cons_zero, List.set_cons_succ, i64_w, i32_w]
          rfl
        refine pure_ (i := 4) (N := some 60) (v := ?_) (a' := ?_) #[true, false, true, true, true, false, false, false, false, false, false, false] rfl rfl (by kernel_rfl) (fun _ _ _ h => h) (Or.inl ⟨by rfl, ?_⟩) ?_ ?_
        rotate_left
        · intro w'
          go_simp
          with_reducible rfl
        rotate_left
        · simp only [Act.put, List.setIfInBounds_toArray, List.set_cons_zero, List.set_cons_succ, i64_w, i32_w]
          rfl
        refine pure_ (i := 5) (N := some 61) (v := ?_) (a' := ?_) #[true, false, true, true, true, true, false, false, false, false, false, false] rfl rfl (by kernel_rfl) (fun _ _ _ h => h) (Or.inl ⟨by rfl, ?_⟩) ?_ ?_
        rotate_left
        · intro w'
          go_simp
          with_reducible rfl
        rotate_left
        · simp only [Act.put, List.setIfInBounds_toArray, List.set_cons_zero, List.set_cons_succ, i64_w, i32_w]
          rfl
        refine take_ (i := 1) (N := some 57) (v := ?_) (a' := ?_) #[true, true, true, true, true, true, false, false, false, false, false, false] rfl rfl (by kernel_rfl) (fun _ _ _ h => h) (Or.inl ⟨by rfl, ?_⟩) hHeld ?_ ?_
        rotate_left
        · rintro w' ⟨s0, s1, s2⟩
          go_simp
          with_reducible rfl
        rotate_left
        · simp only [Act.put, List.setIfInBounds_toArray, List.set_cons_zero, List.set_cons_succ, i64_w, i32_w]
          rfl
        refine take_ (i := 6) (N := some 62) (v := ?_) (a' := ?_) #[true, true, true, true, true, true, true, false, false, false, false, false] rfl rfl (by kernel_rfl) (fun _ _ _ h => h) (Or.inl ⟨by rfl, ?_⟩) hHeld ?_ ?_
        rotate_left
        · rintro w' ⟨s0, s1, s2⟩
          go_simp
          with_reducible rfl
        rotate_left
        · simp only [Act.put, List.setIfInBounds_toArray, List.set_cons_zero, List.set_cons_succ, i64_w, i32_w]
          rfl
        refine one_ (i := 7) (N := some 63) #[true, true, true, true, true, true, true, true, false, false, false, false] rfl rfl (by kernel_rfl) (by decide) (fun K hK => ?_)
        refine goesC_ (cap := #[.pointer (some ⟨gf, 0, none⟩), .pointer (some ⟨gk, 0, none⟩), .pointer (some ⟨co, 0, none⟩), .pointer (some ⟨gw, 0, none⟩)]) Try.func59 (by kernel_rfl) rfl #[.agg #[.int .i64 yk, .int .i64 yn], .pointer (some ⟨gf, 0, none⟩), .pointer (some ⟨gk, 0, none⟩), .pointer (some ⟨co, 0, none⟩), .pointer (some ⟨gw, 0, none⟩)] (by rfl) rfl rfl (by rfl) (by simp only [List.map_toArray, List.map_cons, List.map_nil]; rfl) ?_
        with_reducible refine (value_fn w0 wr.drew gs go gk mt ct mo co gw gf tA oA bA tc oc bc s B v1 v2 v3 vw2 ros rbs L ⟨yk, yn⟩ (hB.out.new hWd.out) hBok2.out hVA.out (h0W.out.trans hWd.out (fun _ _ h => h)) hn hno hyn.out).mono ?_
        rintro e w5 ⟨v1'', vw', rfl, hB5, hT5⟩
        refine ⟨.agg #[.int .i64 (numV s B ⟨yk, yn⟩).1.kind, .int .i64 (numV s B ⟨yk, yn⟩).1.n], rfl, ?_⟩
        replace hT5 := Turn2.new_then hWd.out hT5
        have hX5 := Aside0.mk (hB.out.blk hT5 hX.out (by decide))
        have h0v : Aside0 (Chg (fun _ => False) w0 w5) := ⟨Turn2.chg h0W.out hT5⟩
        have hO5 := Aside0.mk (ow_turn2 hO.out hT5 (fun j h1 h2 => ow_blk_ne hO.out (h2 ▸ hB.out.qo) (by decide) h1) (by decide) (apart_typ hB.out.rk hO.out (by decide)))
        replace hB5 := Aside0.mk hB5
        replace hT5 := Aside0.mk hT5
        have hRd := own_new0 hO5.out.1
        have hCd : Aside0 (Chg (fun b => (svl (vA, vN, vC)).ownBlock = some b) w5 w5) := ⟨Chg.refl _ _⟩
        have y0v := cell_chg0 y0w h0v.out
        have y1v := cell_chg0 y1w h0v.out
        refine hK.out _ _ ⟨(blk_cell hX5.out 1), y0v, y1v⟩ (fun hHeld => ?_)
        clear hK K
        refine norm_ (a' := ?_) ?_ ?_
        rotate_left
        · show Act.put _ (some 63) _ = _
          simp only [Act.put, List.setIfInBounds_toArray, List.set_cons_zero, List.set_cons_succ, i64_w, i32_w]
          rfl
        refine one_ (i := 8) (N := some 64) #[true, true, true, true, true, true, true, true, true, false, false, false] rfl rfl (by kernel_rfl) (by decide) (fun K hK => ?_)
        refine value_ (w1 := ?_) (v := ?_) (by rfl) rfl ?_ ?_
        rotate_left 2
        · go_simp
          constructor
          · rfl
          · rfl
        refine hK.out _ _ ⟨(cellQ hHeld.1 _), (cellQ hHeld.2.1 _), (cellQ hHeld.2.2 _)⟩ (fun hHeld => ?_)
        clear hK K
        refine norm_ (a' := ?_) ?_ ?_
        rotate_left
        · show Act.put _ (some 64) _ = _
          simp only [Act.put, List.setIfInBounds_toArray, List.set_cons_zero, List.set_cons_succ, i64_w, i32_w]
          rfl
        refine one_ (i := 9) (N := some 65) #[true, true, true, true, true, true, true, true, true, true, false, false] rfl rfl (by kernel_rfl) (by decide) (fun K hK => ?_)
        refine app1T kQV (by rfl) (.tmp 57) (.tmp 64) (by rfl) Try.underlying52 infoQV rfl (by decide) (by decide) (numV s B ⟨yk, yn⟩).1 (by rfl) (by rfl) (kQV_M _ _ _ _) hRd hCd hli ?_
        intro v9 w6 hr6 hc6
        obtain ⟨uA, uN, uC, rfl⟩ := R_sl hr6.out
        have hX6 := Aside0.mk (hc6.out.blk hX5.out (fun e => ow_blk_ne hO5.out hX5.out (by decide) e))
        have cx6 := blk_cell hX6.out 1
        have fx6 := blk_frozen hX6.out 1
        refine hK.out _ _ ⟨cx6, (cell_keepQ hc6.out (fun e => hno3.out e) y0v), (cell_keepQ hc6.out (fun e => hno3.out e) y1v)⟩ (fun hHeld => ?_)
        clear hK K
        refine norm_ (a' := ?_) ?_ ?_
        rotate_left
        · show Act.put _ (some 65) _ = _
          simp only [Act.put, List.setIfInBounds_toArray, List.set_cons_zero, List.set_cons_succ, i64_w, i32_w]
          rfl
        refine pure_ (i := 10) (N := some 66) (v := ?_) (a' := ?_) #[true, true, true, true, true, true, true, true, true, true, true, false] rfl rfl (by kernel_rfl) (fun _ _ _ h => h) (Or.inl ⟨by rfl, ?_⟩) ?_ ?_
        rotate_left
        · intro w'
          go_simp
          with_reducible rfl
        rotate_left
        · simp only [Act.put, List.setIfInBounds_toArray, List.set_cons_zero, List.set_cons_succ, i64_w, i32_w]
          rfl
        refine last_ (i := 11) (N := none) #[true, true, true, true, true, true, true, true, true, true, true, true] rfl rfl (by kernel_rfl) (by decide) (fun K hK => ?_)
        refine skip_ (w1 := ?_) (by rfl) rfl ?_ ?_
        rotate_left
        · go_simp
          rfl
        refine hK.out _ _ ?_
        clear hK K
        refine done_ (by kernel_rfl) ?_
        go_wp2
        go_roundw
        case measure => first | (simp [intOf]; done) | (simp [intOf]; omega)
        case rel =>
          have hlo5 : w.heap.size ≤ w5.heap.size := Nat.le_trans hT.out.size hT5.out.size
          have hO6 := Ow.app (v1 := (uA, uN, uC)) rfl hO5.out hr6.out hlo5
          have hQ5 := ow_turn2 hQ.out hT5.out (fun j h1 h2 => ow_blk_ne hQ.out (h2 ▸ hB.out.qo) (by decide) h1) (by decide) hAp.out
          have hQ6 := hQ5.chg hc6.out (fun j h1 h2 => Ow.ne hQ5 hO5.out (by decide) j h1 h2)
          have hB6 := hB5.out.row hO5.out (by decide) hc6.out
          have hR5 := hB.out.blk hT5.out hR.out (by decide)
          have hR6 := hc6.out.blk hR5 (fun e => ow_blk_ne hO5.out hR5 (by decide) e)
          have hT6 := (hT.out.trans hT5.out).then_own hc6.out (fun j hj => hO5.out.2 j hj)
          have hAp6 := hT5.out.apart hQ.out hAp.out
          refine ⟨k + 1, uA, qA, uN, uC, qN, qC, v1'', vw', by go_num, by omega, ⟨?_⟩, ⟨blk_setne hR6 (by omega)⟩, ⟨?_⟩, ⟨?_⟩, ⟨hAp6⟩, ⟨?_⟩, ⟨hT6.set (Nat.le_refl _)⟩⟩
          · exact blk_set hX6.out 1 (.slice uA uN uC)
          · rw [hF.out, hitm.out]; exact ow_set hO6 hX6.out (by decide)
          · rw [hF.out, hitm.out]; exact ow_set hQ6 hX6.out (by decide)
          · rw [hF.out, hitm.out]; exact hB6.set hX6.out (by decide)
      · obtain rfl : k = max ks.length its.length := by omega
        have hkm : ¬ (((max ks.length its.length : Nat) : Int) < max (ks.length : Int) (its.length : Int)) := by omega
        clear hF hBok hcnt hli hlk
        go_upto_region 14 with (fail)
        (try simp only [Act.put, List.setIfInBounds_toArray, List.set_cons_zero, List.set_cons_succ])
        have x0 : wr.cell? ⟨w.heap.size, 0, none⟩ = some (.int .i64 7) := blk_cell hX.out 0
        have x1 : wr.cell? ⟨w.heap.size, 1, none⟩ = some (.slice vA vN vC) := blk_cell hX.out 1
        have x2 : wr.cell? ⟨w.heap.size, 2, none⟩ = some (.slice qA qN qC) := blk_cell hX.out 2
        have x3 : wr.cell? ⟨w.heap.size, 3, none⟩ = some (.int .i64 xf) := blk_cell hX.out 3
        have x4 : wr.cell? ⟨w.heap.size, 4, none⟩ = some (.int .i64 xc) := blk_cell hX.out 4
        have x5 : wr.cell? ⟨w.heap.size, 5, none⟩ = some (.bool xh) := blk_cell hX.out 5
        have y0 : wr.cell? ⟨w.heap.size + 1, 0, none⟩ = some (.int .i64 0) := blk_cell hR.out 0
        have y1 : wr.cell? ⟨w.heap.size + 1, 1, none⟩ = some (.slice none 0 0) := blk_cell hR.out 1
        have y2 : wr.cell? ⟨w.heap.size + 1, 2, none⟩ = some (.slice none 0 0) := blk_cell hR.out 2
        have y3 : wr.cell? ⟨w.heap.size + 1, 3, none⟩ = some (.int .i64 0) := blk_cell hR.out 3
        have y4 : wr.cell? ⟨w.heap.size + 1, 4, none⟩ = some (.int .i64 0) := blk_cell hR.out 4
        have y5 : wr.cell? ⟨w.heap.size + 1, 5, none⟩ = some (.bool false) := blk_cell hR.out 5
        have f0 : wr.frozen? ⟨w.heap.size + 1, 0, none⟩ = false := blk_frozen hR.out 0
        have f1 : wr.frozen? ⟨w.heap.size + 1, 1, none⟩ = false := blk_frozen hR.out 1
        have f2 : wr.frozen? ⟨w.heap.size + 1, 2, none⟩ = false := blk_frozen hR.out 2
        have f3 : wr.frozen? ⟨w.heap.size + 1, 3, none⟩ = false := blk_frozen hR.out 3
        have f4 : wr.frozen? ⟨w.heap.size + 1, 4, none⟩ = false := blk_frozen hR.out 4
        have f5 : wr.frozen? ⟨w.heap.size + 1, 5, none⟩ = false := blk_frozen hR.out 5
        have bf := (blk_set (blk_set (blk_set (blk_set (blk_set (blk_set hR.out 0 (.int .i64 7)) 1 (.slice vA vN vC)) 2 (.slice qA qN qC)) 3 (.int .i64 xf)) 4 (.int .i64 xc)) 5 (.bool xh))
        have hBf := Aside0.mk ((((((hB.out.set (i := 0) (u := .int .i64 7) hR.out (by decide)).set (i := 1) (u := .slice vA vN vC) (blk_set hR.out 0 (.int .i64 7)) (by decide)).set (i := 2) (u := .slice qA qN qC) (blk_set (blk_set hR.out 0 (.int .i64 7)) 1 (.slice vA vN vC)) (by decide)).set (i := 3) (u := .int .i64 xf) (blk_set (blk_set (blk_set hR.out 0 (.int .i64 7)) 1 (.slice vA vN vC)) 2 (.slice qA qN qC)) (by decide)).set (i := 4) (u := .int .i64 xc) (blk_set (blk_set (blk_set (blk_set hR.out 0 (.int .i64 7)) 1 (.slice vA vN vC)) 2 (.slice qA qN qC)) 3 (.int .i64 xf)) (by decide)).set (i := 5) (u := .bool xh) (blk_set (blk_set (blk_set (blk_set (blk_set hR.out 0 (.int .i64 7)) 1 (.slice vA vN vC)) 2 (.slice qA qN qC)) 3 (.int .i64 xf)) 4 (.int .i64 xc)) (by decide))
        have hTf := Aside0.mk ((((((hT.out.set (g := w.heap.size + 1) (i := 0) (u := .int .i64 7) (by omega)).set (g := w.heap.size + 1) (i := 1) (u := .slice vA vN vC) (by omega)).set (g := w.heap.size + 1) (i := 2) (u := .slice qA qN qC) (by omega)).set (g := w.heap.size + 1) (i := 3) (u := .int .i64 xf) (by omega)).set (g := w.heap.size + 1) (i := 4) (u := .int .i64 xc) (by omega)).set (g := w.heap.size + 1) (i := 5) (u := .bool xh) (by omega))
        have hif := Aside0.mk (ow_set (i := 5) (u := .bool xh) (ow_set (i := 4) (u := .int .i64 xc) (ow_set (i := 3) (u := .int .i64 xf) (ow_set (i := 2) (u := .slice qA qN qC) (ow_set (i := 1) (u := .slice vA vN vC) (ow_set (i := 0) (u := .int .i64 7) hO.out hR.out (by decide)) (blk_set hR.out 0 (.int .i64 7)) (by decide)) (blk_set (blk_set hR.out 0 (.int .i64 7)) 1 (.slice vA vN vC)) (by decide)) (blk_set (blk_set (blk_set hR.out 0 (.int .i64 7)) 1 (.slice vA vN vC)) 2 (.slice qA qN qC)) (by decide)) (blk_set (blk_set (blk_set (blk_set hR.out 0 (.int .i64 7)) 1 (.slice vA vN vC)) 2 (.slice qA qN qC)) 3 (.int .i64 xf)) (by decide)) (blk_set (blk_set (blk_set (blk_set (blk_set hR.out 0 (.int .i64 7)) 1 (.slice vA vN vC)) 2 (.slice qA qN qC)) 3 (.int .i64 xf)) 4 (.int .i64 xc)) (by decide))
        have hkf := Aside0.mk (ow_set (i := 5) (u := .bool xh) (ow_set (i := 4) (u := .int .i64 xc) (ow_set (i := 3) (u := .int .i64 xf) (ow_set (i := 2) (u := .slice qA qN qC) (ow_set (i := 1) (u := .slice vA vN vC) (ow_set (i := 0) (u := .int .i64 7) hQ.out hR.out (by decide)) (blk_set hR.out 0 (.int .i64 7)) (by decide)) (blk_set (blk_set hR.out 0 (.int .i64 7)) 1 (.slice vA vN vC)) (by decide)) (blk_set (blk_set (blk_set hR.out 0 (.int .i64 7)) 1 (.slice vA vN vC)) 2 (.slice qA qN qC)) (by decide)) (blk_set (blk_set (blk_set (blk_set hR.out 0 (.int .i64 7)) 1 (.slice vA vN vC)) 2 (.slice qA qN qC)) 3 (.int .i64 xf)) (by decide)) (blk_set (blk_set (blk_set (blk_set (blk_set hR.out 0 (.int .i64 7)) 1 (.slice vA vN vC)) 2 (.slice qA qN qC)) 3 (.int .i64 xf)) 4 (.int .i64 xc)) (by decide))
        go_wp2
        refine bodyPost_ret (results_cell_row rfl _ _ _ _ _ _ _ rfl bf Try.underlying59 rfl (by kernel_rfl)) rfl ?_
        refine ⟨v1, vw2, (vA, vN, vC), (qA, qN, qC), ?_, ?_, hTf.out, ?_, ?_, hAp.out⟩
        · first | (rw [hE.out]; done) | (rw [hE.out]; rfl) | (rw [hE.out]; simp)
        · rw [hE.out]; exact hBf.out
        · rw [hE.out]; exact hif.out
        · rw [hE.out]; exact hkf.out
end Go.Proofs.Ytdoghjmanogelaa.K
