import Derived.Test.YtdoghjmanogelaaUf
import Derived.IntWalk
import Derived.BigQuiet
import Derived.Deep.RegionHeld3
import Derived.Maps.OwnSet
namespace Go.Proofs.Ytdoghjmanogelaa.K
open Go.Maps Go.RowKit Go.Proofs.YtdoghjmanogelaaW.PrintWords Go.Proofs.YtdoghjmanogelaaW.PrintLast Go.Proofs.YtdoghjmanogelaaW.PrintMore
set_option linter.unusedVariables false
set_option linter.unusedSimpArgs false
set_option maxRecDepth 100000
theorem renumbered_fn (w0 w : World) (gs go gk mt ct mo co gw gf : Nat) (tA oA bA : Option Addr) (tc oc bc : Nat) (s : QS) (b : Bk) (v1 v2 v3 vw : SV) (ros : List RO) (rbs : List RB) (L : List (List RF)) (r : RO) (x : QO) (h : PBk w w0.heap.size gs go gk mt ct mo co gw gf tA oA bA tc oc bc s b v1 v2 v3 vw) (hok : BkOk s b) (hV : SView w0 tA oA bA s ros rbs L) (h0 : Chg (fun _ => False) w0 w) (hn : s.texts.length ≤ 1048576) (hno : s.objs.length ≤ 1048576) (hr : RawO w0 r x) (hnn : ∀ v ∈ x.items, v.n ≤ 9223372036854775807) (hkn : ∀ v ∈ x.keys, v ≤ 9223372036854775807) (hln : x.items.length ≤ 1048576) (hlk : x.keys.length ≤ 1048576) :
    Calls Try.prog 62 #[.agg (cellsRO r).toArray, .func (.func 58) #[] #[.pointer (some ⟨gs, 0, none⟩), .pointer (some ⟨ct, 0, none⟩), .pointer (some ⟨go, 0, none⟩)], .func (.func 59) #[] #[.pointer (some ⟨gf, 0, none⟩), .pointer (some ⟨gk, 0, none⟩), .pointer (some ⟨co, 0, none⟩), .pointer (some ⟨gw, 0, none⟩)]] w (RnPost w w0.heap.size gs go gk mt ct mo co gw gf tA oA bA tc oc bc s (numO s b x) v2 v3 vw) := by
  obtain ⟨k, ⟨iA, iN, iC⟩, ⟨kA, kN, kC⟩, f, c, u⟩ := r
  obtain ⟨xk, its, ks, xf, xc, xh⟩ := x
  obtain ⟨e1, e2, e3, e4, e5, e6⟩ := hr
  simp only at e1 e2 e3 e4 e5 e6 hnn hkn hln hlk
  subst e1 e2 e3 e4
  by_cases hk : k = 7
  · subst hk
    exact renumbered_rec w0 w gs go gk mt ct mo co gw gf tA oA bA tc oc bc s b v1 v2 v3 vw ros rbs L iA kA iN iC kN kC f c u its ks h hok hV h0 hn hno e5 e6 hnn hln hlk hkn
  · exact renumbered_not w0 w gs go gk mt ct mo co gw gf tA oA bA tc oc bc s b v1 v2 v3 vw ros rbs L iA kA iN iC kN kC k f c u its ks h hok hV h0 hn hno e5 e6 hnn hln hlk hk
theorem heap_al6 (w : World) (A B C D E F : Obj) : ((((((w.alloc A).alloc B).alloc C).alloc D).alloc E).alloc F).heap[w.heap.size + 1 + 1 + 1 + 1 + 1]? = some F := by
  have := heap_alloc_new (((((w.alloc A).alloc B).alloc C).alloc D).alloc E) F
  simpa using this
theorem heap_al7 (w : World) (A B C D E F G : Obj) : (((((((w.alloc A).alloc B).alloc C).alloc D).alloc E).alloc F).alloc G).heap[w.heap.size + 1 + 1 + 1 + 1 + 1 + 1]? = some G := by
  have := heap_alloc_new ((((((w.alloc A).alloc B).alloc C).alloc D).alloc E).alloc F) G
  simpa using this
theorem heap_al8 (w : World) (A B C D E F G H : Obj) : ((((((((w.alloc A).alloc B).alloc C).alloc D).alloc E).alloc F).alloc G).alloc H).heap[w.heap.size + 1 + 1 + 1 + 1 + 1 + 1 + 1]? = some H := by
  have := heap_alloc_new (((((((w.alloc A).alloc B).alloc C).alloc D).alloc E).alloc F).alloc G) H
  simpa using this
theorem heap_al9 (w : World) (A B C D E F G H I : Obj) : (((((((((w.alloc A).alloc B).alloc C).alloc D).alloc E).alloc F).alloc G).alloc H).alloc I).heap[w.heap.size + 1 + 1 + 1 + 1 + 1 + 1 + 1 + 1]? = some I := by
  have := heap_alloc_new ((((((((w.alloc A).alloc B).alloc C).alloc D).alloc E).alloc F).alloc G).alloc H) I
  simpa using this
theorem wpList_store_at {P : Program} {ops : Array Oper} {rest : List Oper} {o : Oper} {a : Act} {w : World} {Q : Exit → Act → World → Prop} (hgd : o.guard = none) (ty : TypeId) (x y : Operand) (ho : o.op = .store ty x y)
    (g i : Nat) (v : Value) (hx : a.eval x = .pointer (some ⟨g, i, none⟩)) (hy : a.eval y = v) (h1 : v.oneCell' = true) {t : TypeId} {cs : Array Value} (hg : w.heap[g]? = some (.cells cs t (0, 0))) (hi : i < cs.size) (hs : (P.info? ty).map (·.size) = some 1)
    (h : wpList P ops Q rest (a.put o.dst undef) (w.setCell ⟨g, i, none⟩ v)) : wpList P ops Q (o :: rest) a w :=
  wpList_plain hgd fun K hK => by
    have hcell : w.cell? ⟨g, i, none⟩ = some cs[i] := by simp [World.cell?, hg, hi]
    have hfro : w.frozen? ⟨g, i, none⟩ = false := by simp [World.frozen?, hg]
    have hc : v.cells = #[v] := by cases v <;> first | rfl | cases h1
    have hadd : (⟨g, i, none⟩ : Addr).add 0 = ⟨g, i, none⟩ := by unfold Addr.add; simp
    have hrun : (storeVar ty ⟨g, i, none⟩ v).run P w = .ok () (w.setCell ⟨g, i, none⟩ v) := by
      cases hq : P.info? ty with
      | none => simp [hq] at hs
      | some inf =>
        have hz : inf.size = 1 := by simpa [hq] using hs
        simp [storeVar, sizeOf, typeInfo, hq, hc, hz, storeCells, hadd, run_store P w _ v _ h1, hcell, hfro]
    unfold Oper.wp execOp
    simp only [ho, hx, hy, Instr.storeAt, Instr.sureAddr, Sem.run_bind, Sem.run_pure, Result.andThen_ok, hrun]
    exact hK _ _ h
theorem twoJ_ {P : Program} {ops : Array Oper} {Q : Exit → Act → World → Prop} {md : Region.Mode} {S : World → Prop} {ds : List Nat} {i j : Nat} {Ni Nj : Option Tmp} {oi oj : Oper} {fuel : Nat} {l : Array Bool} {a : Act} {w : World} (li lj : Array Bool) (hi : ops[i]? = some oi) (hj : ops[j]? = some oj) (hNi : oi.dst = Ni) (hNj : oj.dst = Nj)
    (hc : (Region.ready md ops l == [i, j] && l.setIfInBounds i true == li && l.setIfInBounds j true == lj) = true) (hdj : j ∈ ds)
    (h1 : ∀ K : Act → World → Prop, Shut (∀ a' w', (S w → S w') → wpAnyLast P md ops Q S ds fuel li a' w' → K a' w') → if Region.wanted oi (yielded ops a.tmps) = true then Oper.wp P oi a w K Q else K (a.put Ni undef) w)
    (h2 : ∀ K : Act → World → Prop, Shut (∀ a' w', wpAnyLast P md ops Q S ds fuel lj a' w' → K a' w') → if Region.wanted oj (yielded ops a.tmps) = true then Oper.wp P oj a w K Q else K (a.put Nj undef) w) :
    wpAnyLast P md ops Q S ds (fuel + 1) l a w := by
  subst hNi
  subst hNj
  simp only [Bool.and_eq_true, beq_iff_eq] at hc
  obtain ⟨⟨h3, h4⟩, h5⟩ := hc
  subst h4
  subst h5
  exact wpAnyLast_ready h3 (by simp) (fun k hk => by
    have hk2 : k = i ∨ k = j := by simpa using hk
    rcases hk2 with rfl | rfl
    · exact wpOp_step hi (fun K' hK => h1 K' (fun a w hS hW => hK a w ⟨fun _ => hS, hW⟩))
    · exact wpOp_step hj (fun K' hK => h2 K' (fun a w hW => hK a w ⟨fun hn => absurd hdj hn, hW⟩)))
theorem Turn2.hits {w w' : World} {lo lo' gs go gk mt ct mo co gw gf : Nat} {tA oA bA : Option Addr} {tc oc bc : Nat} {s : QS} {b : Bk} {v1 v2 v3 vw vw' : SV} (h : PBk w lo gs go gk mt ct mo co gw gf tA oA bA tc oc bc s b v1 v2 v3 vw) (ht : Turn2 w w' lo' go vw vw') : ∃ S, Chg S w w' ∧ ∀ (l : Nat) (ts : List TypeId), (∀ t ∈ ts, t ∉ [40, 9, 57, 2]) → Hits w l S ts := by
  obtain ⟨S, hc, _, hS, _⟩ := ht
  refine ⟨S, hc, fun l ts hts b cs t hb _ he hm => hts t hm ?_⟩
  rcases hS b cs t hb he with h1 | h1 | h1
  · subst h1; rw [cells_t h.qo he]; decide
  · rcases List.mem_cons.1 h1 with e | e
    · subst e; decide
    · rw [List.mem_singleton.1 e]; decide
  · rw [own_type h.rk h1 he]; decide
theorem BC.turn2 {w w' : World} {lo lo' lo2 gs go gk mt ct mo co gw gf : Nat} {tA oA bA : Option Addr} {tc oc bc : Nat} {s : QS} {b : Bk} {v1 v2 v3 vw vw' : SV} {Z : List (RB × List RF)} {xs : List QB} (hc : BC w lo2 Z xs) (h : PBk w lo gs go gk mt ct mo co gw gf tA oA bA tc oc bc s b v1 v2 v3 vw) (ht : Turn2 w w' lo' go vw vw') : BC w' lo2 Z xs := by
  obtain ⟨S, h1, h2⟩ := ht.hits h
  exact hc.hit h1 (h2 _ _ (by decide))
theorem FC.turn2 {w w' : World} {lo lo' lo2 gs go gk mt ct mo co gw gf : Nat} {tA oA bA : Option Addr} {tc oc bc : Nat} {s : QS} {b : Bk} {v1 v2 v3 vw vw' : SV} {rs : List RF} {xs : List QFr} (hc : FC w lo2 rs xs) (h : PBk w lo gs go gk mt ct mo co gw gf tA oA bA tc oc bc s b v1 v2 v3 vw) (ht : Turn2 w w' lo' go vw vw') : FC w' lo2 rs xs := by
  obtain ⟨S, h1, h2⟩ := ht.hits h
  exact hc.hit h1 (h2 _ _ (by decide))
theorem ow_t2 {α : Type} {kd : Kd α} {e : TypeId} {w w' : World} {lo lo' lo2 gs go gk mt ct mo co gw gf : Nat} {tA oA bA : Option Addr} {tc oc bc : Nat} {s : QS} {b : Bk} {v v1 v2 v3 vw vw' : SV} {xs : List α} (ho : Ow kd e w lo2 v xs) (h : PBk w lo gs go gk mt ct mo co gw gf tA oA bA tc oc bc s b v1 v2 v3 vw) (ht : Turn2 w w' lo' go vw vw') (he : e ∉ [40, 9, 57, 2]) : Ow kd e w' lo2 v xs := by
  obtain ⟨S, h1, h2⟩ := ht.hits h
  exact ho.hit h1 (h2 lo2 [e] (fun t hm => by rw [List.mem_singleton.1 hm]; exact he)) (List.mem_singleton_self _)
def KeysOff (vw : SV) (ros : List RO) : Prop := ∀ r ∈ ros, apart vw r.keys
theorem OC.turn2 {w w' : World} {lo lo' lo2 gs go gk mt ct mo co gw gf : Nat} {tA oA bA : Option Addr} {tc oc bc : Nat} {s : QS} {b : Bk} {v1 v2 v3 vw vw' : SV} {ros : List RO} {xs : List QO} (hc : OC w lo2 ros xs) (hk : KeysOff vw ros) (h : PBk w lo gs go gk mt ct mo co gw gf tA oA bA tc oc bc s b v1 v2 v3 vw) (ht : Turn2 w w' lo' go vw vw') : OC w' lo2 ros xs ∧ KeysOff vw' ros := by
  refine ⟨⟨hc.1, fun k r x h1 h2 => ?_⟩, fun r hr => ?_⟩
  · obtain ⟨a1, a2, a3, a4, a5, a6⟩ := hc.2 k r x h1 h2
    exact ⟨a1, a2, a3, a4, ow_t2 a5 h ht (by decide), ow_turn2 a6 ht (fun j h3 h4 => ow_blk_ne a6 (h4 ▸ h.qo) (by decide) h3) (by decide) (hk r (List.mem_of_getElem? h1))⟩
  · obtain ⟨k, hkk, hr2⟩ := List.getElem_of_mem hr
    obtain ⟨_, _, _, _, _, a6⟩ := hc.2 k r _ (by rw [List.getElem?_eq_getElem hkk, hr2]) (List.getElem?_eq_getElem (by rw [← hc.1]; exact hkk))
    exact ht.apart a6 (hk r hr)
theorem PBk.blkS {w w' : World} {lo lo' gs go gk mt ct mo co gw gf g : Nat} {tA oA bA : Option Addr} {tc oc bc : Nat} {s : QS} {b : Bk} {v1 v2 v3 vw vw' : SV} {cs : Array Value} (h : PBk w lo gs go gk mt ct mo co gw gf tA oA bA tc oc bc s b v1 v2 v3 vw) (ht : Turn2 w w' lo' go vw vw') (hb : w.heap[g]? = some (.cells cs 40 (0, 0))) (hg : g ≠ go) : w'.heap[g]? = some (.cells cs 40 (0, 0)) :=
  ht.blk hb (by decide) hg (fun e => absurd (own_type h.rk e hb) (by decide))
theorem PBk.out2 {w : World} {lo gs go gk mt ct mo co gw gf : Nat} {tA oA bA A : Option Addr} {tc oc bc N C : Nat} {s : QS} {b : Bk} {v1 v2 v3 vw : SV} (h : PBk w lo gs go gk mt ct mo co gw gf tA oA bA tc oc bc s b v1 v2 v3 vw) : PBk (w.setCell ⟨go, 2, none⟩ (.slice A N C)) lo gs go gk mt ct mo co gw gf tA oA bA tc oc bc s b v1 v2 (A, N, C) vw :=
  have hT : ∀ {cs : Array Value} {t : TypeId} {g : Nat}, w.heap[g]? = some (.cells cs t (0, 0)) → t ≠ 40 → (w.setCell ⟨go, 2, none⟩ (.slice A N C)).heap[g]? = some (.cells cs t (0, 0)) := fun hb ht => blk_setne hb (fun e => ht (cells_t h.qo (e ▸ hb)))
  ⟨blk_setne h.qs h.so, blk_set h.qo 2 (.slice A N C), hT h.qk (by decide), hT h.qct (by decide), hT h.qco (by decide), hT h.qgw (by decide), hT h.qf (by decide), h.qmt.chg (chg_set w go 2 _) (fun e => h.qmt.ne h.qo e.symm), h.qmo.chg (chg_set w go 2 _) (fun e => h.qmo.ne h.qo e.symm), ow_set h.rt h.qo (by decide), ow_set h.rk h.qo (by decide), h.mm, h.so, h.lg⟩
theorem PBk.out1 {w : World} {lo gs go gk mt ct mo co gw gf : Nat} {tA oA bA A : Option Addr} {tc oc bc N C : Nat} {s : QS} {b : Bk} {v1 v2 v3 vw : SV} (h : PBk w lo gs go gk mt ct mo co gw gf tA oA bA tc oc bc s b v1 v2 v3 vw) : PBk (w.setCell ⟨go, 1, none⟩ (.slice A N C)) lo gs go gk mt ct mo co gw gf tA oA bA tc oc bc s b v1 (A, N, C) v3 vw :=
  have hT : ∀ {cs : Array Value} {t : TypeId} {g : Nat}, w.heap[g]? = some (.cells cs t (0, 0)) → t ≠ 40 → (w.setCell ⟨go, 1, none⟩ (.slice A N C)).heap[g]? = some (.cells cs t (0, 0)) := fun hb ht => blk_setne hb (fun e => ht (cells_t h.qo (e ▸ hb)))
  ⟨blk_setne h.qs h.so, blk_set h.qo 1 (.slice A N C), hT h.qk (by decide), hT h.qct (by decide), hT h.qco (by decide), hT h.qgw (by decide), hT h.qf (by decide), h.qmt.chg (chg_set w go 1 _) (fun e => h.qmt.ne h.qo e.symm), h.qmo.chg (chg_set w go 1 _) (fun e => h.qmo.ne h.qo e.symm), ow_set h.rt h.qo (by decide), ow_set h.rk h.qo (by decide), h.mm, h.so, h.lg⟩
def slotsZ (Z : List (RB × List RF)) : List SV := Z.flatMap (fun z => z.2.map (·.slots))
theorem slotsZ_snoc (Z : List (RB × List RF)) (z : RB × List RF) : slotsZ (Z ++ [z]) = slotsZ Z ++ z.2.map (·.slots) := by simp [slotsZ]
theorem pw_snoc {l : List SV} {x : SV} (h : l.Pairwise apart) (hx : ∀ y ∈ l, apart y x) : (l ++ [x]).Pairwise apart :=
  List.pairwise_append.2 ⟨h, List.pairwise_singleton _ _, fun a ha b hb => by rw [List.mem_singleton.1 hb]; exact hx a ha⟩
theorem apart_lt {n : Nat} {x y : SV} (hy : ∀ j, (svl y).ownBlock = some j → j < n) (hx : ∀ j, (svl x).ownBlock = some j → n ≤ j) : apart y x := fun j h1 h2 => by
  have h3 := hy j h1
  have h4 := hx j h2
  omega
theorem fc_lt {w : World} {lo : Nat} {rs : List RF} {xs : List QFr} (h : FC w lo rs xs) : ∀ y ∈ rs.map (·.slots), ∀ j, (svl y).ownBlock = some j → j < w.heap.size := fun y hy j hj => by
  obtain ⟨r, hr, rfl⟩ := List.mem_map.1 hy
  obtain ⟨k, hk, he⟩ := List.getElem_of_mem hr
  obtain ⟨_, _, ho⟩ := h.2 k r _ (by rw [List.getElem?_eq_getElem hk, he]) (List.getElem?_eq_getElem (by rw [← h.1]; exact hk))
  exact ho.lt j hj
theorem bc_lt {w : World} {lo : Nat} {Z : List (RB × List RF)} {xs : List QB} (h : BC w lo Z xs) : ∀ y ∈ slotsZ Z, ∀ j, (svl y).ownBlock = some j → j < w.heap.size := fun y hy j hj => by
  obtain ⟨z, hz, hyz⟩ := List.mem_flatMap.1 hy
  obtain ⟨k, hk, he⟩ := List.getElem_of_mem hz
  obtain ⟨_, hf⟩ := h.2 k z _ (by rw [List.getElem?_eq_getElem hk, he]) (List.getElem?_eq_getElem (by rw [← h.1]; exact hk))
  exact fc_lt hf y hyz j hj
theorem oc_lt {w : World} {lo : Nat} {ros : List RO} {xs : List QO} (h : OC w lo ros xs) : ∀ y ∈ ros.map (·.items), ∀ j, (svl y).ownBlock = some j → j < w.heap.size := fun y hy j hj => by
  obtain ⟨r, hr, rfl⟩ := List.mem_map.1 hy
  obtain ⟨k, hk, he⟩ := List.getElem_of_mem hr
  obtain ⟨_, _, _, _, ho, _⟩ := h.2 k r _ (by rw [List.getElem?_eq_getElem hk, he]) (List.getElem?_eq_getElem (by rw [← h.1]; exact hk))
  exact ho.lt j hj
theorem oc_ltk {w : World} {lo : Nat} {ros : List RO} {xs : List QO} (h : OC w lo ros xs) : ∀ y ∈ ros.map (·.keys), ∀ j, (svl y).ownBlock = some j → j < w.heap.size := fun y hy j hj => by
  obtain ⟨r, hr, rfl⟩ := List.mem_map.1 hy
  obtain ⟨k, hk, he⟩ := List.getElem_of_mem hr
  obtain ⟨_, _, _, _, _, ho⟩ := h.2 k r _ (by rw [List.getElem?_eq_getElem hk, he]) (List.getElem?_eq_getElem (by rw [← h.1]; exact hk))
  exact ho.lt j hj
def CanonPostA (w : World) (s : QS) (e : Ending) (w' : World) : Prop := ∃ (v1 v2 v3 : SV) (ros : List RO) (Z : List (RB × List RF)), e = .returned (.agg #[svl v1, svl v2, svl v3, .int .i64 s.cur, .int .i64 s.steps, .int .i64 s.spent, .int .i64 s.read]) ∧ SOwn w' w.heap.size v1 v2 v3 (CanonQ s) ros Z ∧ Chg (fun _ => False) w w' ∧ (slotsZ Z ++ ros.map (·.items)).Pairwise apart ∧ (ros.map (·.keys)).Pairwise apart
def CnR1 (w : World) (go gk mt ct mo co gw gf g2 : Nat) (tA oA bA : Option Addr) (tc oc bc : Nat) (s : QS) (i : Value) (wr : World) : Prop := ∃ (k v3N v3C : Nat) (v3A : Option Addr) (Z : List (RB × List RF)) (v1 vw : SV), i = .int .i64 k ∧ k ≤ s.fibers.length ∧ Aside0 (wr.heap[g2]? = some (.cells #[.slice none 0 0, .slice none 0 0, .slice none 0 0, .int .i64 0, .int .i64 0, .int .i64 0, .int .i64 0] 40)) ∧ Aside0 (Ow kRB 51 wr w.heap.size (v3A, v3N, v3C) (Z.map (·.1))) ∧ Aside0 (BC wr w.heap.size Z (mapS (numB s) ⟨[], []⟩ (s.fibers.take k)).1) ∧ Aside0 (BA Z) ∧ Aside0 (PBk wr w.heap.size w.heap.size go gk mt ct mo co gw gf tA oA bA tc oc bc s (mapS (numB s) ⟨[], []⟩ (s.fibers.take k)).2 v1 (none, 0, 0) (v3A, v3N, v3C) vw) ∧ Aside0 (Chg (fun _ => False) w wr) ∧ Aside0 ((slotsZ Z).Pairwise apart)
def CnR2 (w wo : World) (go gk mt ct mo co gw gf g2 gv : Nat) (tA oA bA : Option Addr) (tc oc bc : Nat) (s : QS) (v3 vwo : SV) (b1 : Bk) (fs : List QFr) (Z : List (RB × List RF)) (i : Value) (wr : World) : Prop := ∃ (k lN lC : Nat) (lA : Option Addr) (rs : List RF) (v1 vw : SV), i = .int .i64 k ∧ k ≤ fs.length ∧ Aside0 (wr.heap[g2]? = some (.cells #[.slice none 0 0, .slice none 0 0, .slice none 0 0, .int .i64 0, .int .i64 0, .int .i64 0, .int .i64 0] 40)) ∧ Aside0 (wr.heap[gv]? = some (.cells #[.slice lA lN lC] 51)) ∧ Aside0 (Ow kRF 54 wr wo.heap.size (lA, lN, lC) rs) ∧ Aside0 (FC wr w.heap.size rs (mapS (numF s) b1 (fs.take k)).1) ∧ Aside0 (PBk wr w.heap.size w.heap.size go gk mt ct mo co gw gf tA oA bA tc oc bc s (mapS (numF s) b1 (fs.take k)).2 v1 (none, 0, 0) v3 vw) ∧ Aside0 (Turn2 wo wr w.heap.size go vwo vw) ∧ Aside0 ((slotsZ Z ++ rs.map (·.slots)).Pairwise apart)
def CnR3 (w : World) (go gk mt ct mo co gw gf g2 : Nat) (tA oA bA : Option Addr) (tc oc bc : Nat) (s : QS) (v3A : Option Addr) (v3N v3C : Nat) (Z : List (RB × List RF)) (i : Value) (wr : World) : Prop := ∃ (k v2N v2C : Nat) (v2A : Option Addr) (ros2 : List RO) (v1 vw : SV), i = .int .i64 k ∧ (iterO s (startQ s).2 k).1.length = k ∧ k ≤ (iterO s (startQ s).2 k).2.os.length ∧ Aside0 (wr.heap[g2]? = some (.cells #[.slice none 0 0, .slice none 0 0, .slice none 0 0, .int .i64 0, .int .i64 0, .int .i64 0, .int .i64 0] 40)) ∧ Aside0 (Ow kRO 59 wr w.heap.size (v2A, v2N, v2C) ros2) ∧ Aside0 (OC wr w.heap.size ros2 (iterO s (startQ s).2 k).1) ∧ Aside0 (KeysOff vw ros2) ∧ Aside0 (Ow kRB 51 wr w.heap.size (v3A, v3N, v3C) (Z.map (·.1))) ∧ Aside0 (BC wr w.heap.size Z (startQ s).1) ∧ Aside0 (PBk wr w.heap.size w.heap.size go gk mt ct mo co gw gf tA oA bA tc oc bc s (iterO s (startQ s).2 k).2 v1 (v2A, v2N, v2C) (v3A, v3N, v3C) vw) ∧ Aside0 (Chg (fun _ => False) w wr) ∧ Aside0 ((slotsZ Z ++ ros2.map (·.items)).Pairwise apart) ∧ Aside0 ((ros2.map (·.keys)).Pairwise apart)
set_option maxHeartbeats 4000000
theorem st_CanonA (w : World) (tA oA bA : Option Addr) (tc oc bc : Nat) (s : QS) (ros : List RO) (rbs : List RB) (L : List (List RF)) (hV : SView w tA oA bA s ros rbs L) (hs : SSmall s) (hb : SBound s) :
    Calls Try.prog 21 #[.agg #[.slice tA s.texts.length tc, .slice oA s.objs.length oc, .slice bA s.fibers.length bc, .int .i64 s.cur, .int .i64 s.steps, .int .i64 s.spent, .int .i64 s.read]] w (CanonPostA w s) := by
  have hVA := Aside0.mk hV
  have hS := Aside0.mk hs
  have hBd := Aside0.mk hb
  have hn1 := hs.t
  have hn2 := hs.o
  have hn3 := hs.b
  clear hV hs hb
  have hmm := @run_makeMap Try.prog
  have hmf : ∀ (fn : Fn) (first cap : Array Value) (w : World), (Instr.makeFunc fn first cap).run Try.prog w = .ok (.func fn first cap) w := fun _ _ _ _ => rfl
  go_enter Try.func21, Try.ntmps21
  go_upto_region 7 with (fail)
  (try simp only [Act.put, List.setIfInBounds_toArray, List.set_cons_zero, List.set_cons_succ])
  generalize hW : World.alloc (World.alloc (World.alloc (World.alloc (World.alloc (World.alloc (World.alloc (World.alloc (World.alloc w _) _) _) _) _) _) _) _) _ = W0
  have B1 : Aside0 (W0.heap[w.heap.size]? = some (.cells #[.slice tA s.texts.length tc, .slice oA s.objs.length oc, .slice bA s.fibers.length bc, .int .i64 s.cur, .int .i64 s.steps, .int .i64 s.spent, .int .i64 s.read] 40)) := ⟨by rw [← hW]; exact (((((((((Chg.refl (fun _ => False) (w.alloc _)).alloc _).alloc _).alloc _).alloc _).alloc _).alloc _).alloc _).alloc _).blk (heap_alloc_new w _) (fun e => e)⟩
  have B2 : Aside0 (W0.heap[w.heap.size + 1]? = some (.cells #[.slice none 0 0, .slice none 0 0, .slice none 0 0, .int .i64 0, .int .i64 0, .int .i64 0, .int .i64 0] 40)) := ⟨by rw [← hW]; exact ((((((((Chg.refl (fun _ => False) ((w.alloc _).alloc _)).alloc _).alloc _).alloc _).alloc _).alloc _).alloc _).alloc _).blk (heap_alloc2_new w _ _) (fun e => e)⟩
  have B3 : Aside0 (W0.heap[w.heap.size + 1 + 1]? = some (.cells #[.slice none 0 0, .slice none 0 0, .slice none 0 0, .int .i64 s.cur, .int .i64 s.steps, .int .i64 s.spent, .int .i64 s.read] 40)) := ⟨by rw [← hW]; exact (((((((Chg.refl (fun _ => False) (((w.alloc _).alloc _).alloc _)).alloc _).alloc _).alloc _).alloc _).alloc _).alloc _).blk (heap_al3 w _ _ _) (fun e => e)⟩
  have B4 : Aside0 (W0.heap[w.heap.size + 1 + 1 + 1]? = some (.cells #[.slice none 0 0, .slice none 0 0, .slice none 0 0, .slice none 0 0, .slice tA s.texts.length tc, .slice oA s.objs.length oc, .slice bA s.fibers.length bc, .int .i64 s.cur, .int .i64 s.steps, .int .i64 s.spent, .int .i64 s.read] 101)) := ⟨by rw [← hW]; exact ((((((Chg.refl (fun _ => False) ((((w.alloc _).alloc _).alloc _).alloc _)).alloc _).alloc _).alloc _).alloc _).alloc _).blk (heap_al4 w _ _ _ _) (fun e => e)⟩
  have B5 : Aside0 (W0.heap[w.heap.size + 1 + 1 + 1 + 1]? = some (Obj.map #[] 0)) := ⟨by rw [← hW]; exact (((((Chg.refl (fun _ => False) (((((w.alloc _).alloc _).alloc _).alloc _).alloc _)).alloc _).alloc _).alloc _).alloc _).blk (heap_al5 w _ _ _ _ _) (fun e => e)⟩
  have B6 : Aside0 (W0.heap[w.heap.size + 1 + 1 + 1 + 1 + 1]? = some (.cells #[.map (some (w.heap.size + 1 + 1 + 1 + 1))] 115)) := ⟨by rw [← hW]; exact ((((Chg.refl (fun _ => False) ((((((w.alloc _).alloc _).alloc _).alloc _).alloc _).alloc _)).alloc _).alloc _).alloc _).blk (heap_al6 w _ _ _ _ _ _) (fun e => e)⟩
  have B7 : Aside0 (W0.heap[w.heap.size + 1 + 1 + 1 + 1 + 1 + 1]? = some (Obj.map #[] 0)) := ⟨by rw [← hW]; exact (((Chg.refl (fun _ => False) (((((((w.alloc _).alloc _).alloc _).alloc _).alloc _).alloc _).alloc _)).alloc _).alloc _).blk (heap_al7 w _ _ _ _ _ _ _) (fun e => e)⟩
  have B8 : Aside0 (W0.heap[w.heap.size + 1 + 1 + 1 + 1 + 1 + 1 + 1]? = some (.cells #[.map (some (w.heap.size + 1 + 1 + 1 + 1 + 1 + 1))] 115)) := ⟨by rw [← hW]; exact ((Chg.refl (fun _ => False) ((((((((w.alloc _).alloc _).alloc _).alloc _).alloc _).alloc _).alloc _).alloc _)).alloc _).blk (heap_al8 w _ _ _ _ _ _ _ _) (fun e => e)⟩
  have B9 : Aside0 (W0.heap[w.heap.size + 1 + 1 + 1 + 1 + 1 + 1 + 1 + 1]? = some (.cells #[.slice none 0 0] 57)) := ⟨by rw [← hW]; exact heap_al9 w _ _ _ _ _ _ _ _ _⟩
  have hz0 : Aside0 (Chg (fun _ => False) w W0) := ⟨by rw [← hW]; exact cg⟩
  have hsz0' : W0.heap.size = w.heap.size + 1 + 1 + 1 + 1 + 1 + 1 + 1 + 1 + 1 := by rw [← hW]; simp
  clear hW
  have hgt := blk_lt B9.out
  have m5 : Aside0 (MapN W0 (w.heap.size + 1 + 1 + 1 + 1) []) := ⟨⟨#[], 0, B5.out, ⟨by simp, MapKept.stamped_empty 0, by simp⟩, Nat.le_refl _, rfl⟩⟩
  have m7 : Aside0 (MapN W0 (w.heap.size + 1 + 1 + 1 + 1 + 1 + 1) []) := ⟨⟨#[], 0, B7.out, ⟨by simp, MapKept.stamped_empty 0, by simp⟩, Nat.le_refl _, rfl⟩⟩
  have hsz0 : Aside0 (W0.heap.size = w.heap.size + 1 + 1 + 1 + 1 + 1 + 1 + 1 + 1 + 1) := ⟨hsz0'⟩
  clear hsz0'
  go_upto_region 9 with ((refine wpList_store_at rfl 117 (.tmp 8) (.tmp 23) rfl W0.heap.size 0 (.func (.func 58) #[] #[.pointer (some ⟨w.heap.size, 0, none⟩), .pointer (some ⟨w.heap.size + 1 + 1 + 1 + 1 + 1, 0, none⟩), .pointer (some ⟨w.heap.size + 1 + 1, 0, none⟩)]) rfl rfl rfl (heap_alloc_new W0 _) (by decide) (by kernel_rfl) ?_))
  (try simp only [Act.put, List.setIfInBounds_toArray, List.set_cons_zero, List.set_cons_succ])
  have hz1 : Aside0 (Chg (fun _ => False) W0 (W0.alloc (.cells #[.func (.func 58) #[] #[.pointer (some ⟨w.heap.size, 0, none⟩), .pointer (some ⟨w.heap.size + 1 + 1 + 1 + 1 + 1, 0, none⟩), .pointer (some ⟨w.heap.size + 1 + 1, 0, none⟩)]] 117))) := ⟨(Chg.refl (fun _ => False) W0).alloc _⟩
  have B10 := Aside0.mk (heap_alloc_new W0 (.cells #[.func (.func 58) #[] #[.pointer (some ⟨w.heap.size, 0, none⟩), .pointer (some ⟨w.heap.size + 1 + 1 + 1 + 1 + 1, 0, none⟩), .pointer (some ⟨w.heap.size + 1 + 1, 0, none⟩)]] 117))
  generalize hW : World.alloc W0 _ = W1 at hz1 B10 ⊢
  have hsg := hsz0.out
  generalize hgf : W0.heap.size = gf at B10 hsg ⊢
  have hz := Aside0.mk (hz0.out.trans hz1.out (fun _ _ h => h))
  replace B1 := Aside0.mk (hz1.out.blk B1.out (fun h => h))
  replace B2 := Aside0.mk (hz1.out.blk B2.out (fun h => h))
  replace B3 := Aside0.mk (hz1.out.blk B3.out (fun h => h))
  replace B4 := Aside0.mk (hz1.out.blk B4.out (fun h => h))
  replace B6 := Aside0.mk (hz1.out.blk B6.out (fun h => h))
  replace B8 := Aside0.mk (hz1.out.blk B8.out (fun h => h))
  replace B9 := Aside0.mk (hz1.out.blk B9.out (fun h => h))
  replace m5 := Aside0.mk (m5.out.chg hz1.out (fun h => h))
  replace m7 := Aside0.mk (m7.out.chg hz1.out (fun h => h))
  clear hW hz0 hz1 B5 B7 hsz0 hgt
  generalize hgw : w.heap.size + 1 + 1 + 1 + 1 + 1 + 1 + 1 + 1 = gw at B9 ⊢
  generalize hco : w.heap.size + 1 + 1 + 1 + 1 + 1 + 1 + 1 = co at B8 ⊢
  generalize hmo : w.heap.size + 1 + 1 + 1 + 1 + 1 + 1 = mo at B8 m7 ⊢
  generalize hct : w.heap.size + 1 + 1 + 1 + 1 + 1 = ct at B6 B10 ⊢
  generalize hmt : w.heap.size + 1 + 1 + 1 + 1 = mt at B6 m5 ⊢
  generalize hgk : w.heap.size + 1 + 1 + 1 = gk at B4 ⊢
  generalize hgo : w.heap.size + 1 + 1 = go at B3 B10 ⊢
  generalize hg2 : w.heap.size + 1 = g2 at B2 ⊢
  have hB : Aside0 (PBk W1 w.heap.size w.heap.size go gk mt ct mo co gw gf tA oA bA tc oc bc s ⟨[], []⟩ (none, 0, 0) (none, 0, 0) (none, 0, 0) (none, 0, 0)) := ⟨⟨B1.out, B3.out, B4.out, B6.out, B8.out, B9.out, B10.out, m5.out, m7.out, Ow.nil _ _ _ _, Ow.nil _ _ _ _, by omega, by omega, by omega, by omega, by omega, by omega⟩⟩
  have hne : Aside0 (w.heap.size < g2 ∧ g2 ≠ go ∧ w.heap.size < go) := ⟨by omega⟩
  have p2 : W1.cell? ⟨w.heap.size, 2, none⟩ = some (.slice bA s.fibers.length bc) := blk_cell B1.out 2
  clear B1 B3 B4 B6 B8 B9 B10 m5 m7 hgf hgw hco hmo hct hmt hgk hgo hg2 hsg hmm
  go_wp2
  clear p2
  go_loopw [28] (fun i wr => CnR1 w go gk mt ct mo co gw gf g2 tA oA bA tc oc bc s i wr) (fun i _ => s.fibers.length - (intOf i).toNat)
  case atStart => exact ⟨0, 0, 0, none, [], _, _, rfl, by omega, B2, ⟨Ow.nil _ _ _ _⟩, ⟨rfl, fun k z x h => by simp at h⟩, ⟨fun i j y z b _ h => by simp at h⟩, hB, hz, ⟨List.Pairwise.nil⟩⟩
  case round =>
    clear B2 hB hz
    obtain ⟨k, v3N, v3C, v3A, Z, v1, vwo, rfl, hk, hR, hO3, hBC, hBA, hB, hCh, hPA⟩ := hrel
    obtain ⟨wo, rfl⟩ : ∃ wo : World, wo = wr := ⟨_, rfl⟩
    by_cases hlt : k < s.fibers.length
    · obtain ⟨x, hx⟩ : ∃ x, s.fibers[k]? = some x := ⟨_, List.getElem?_eq_getElem hlt⟩
      have hv := hVA.out.zip
      obtain ⟨bd, q, e1, e2, z0w⟩ := atRB hv.2.2 k hlt
      subst e1
      obtain ⟨z, hzz, rfl⟩ := pair_at e2
      obtain ⟨z1, z2⟩ := z
      have hzx := hv.2.1 k (z1, z2) x hzz hx
      obtain ⟨⟨fA, fN, fC⟩⟩ := z1
      have hfl : fN = x.frames.length := hzx.1.1.symm.trans hzx.2.1
      subst hfl
      have hzA := Aside0.mk hzx
      have hfb := Aside0.mk (hS.out.bf x (List.mem_of_getElem? hx)).2
      have hfm := (hS.out.bf x (List.mem_of_getElem? hx)).1
      have hfs := Aside0.mk (hBd.out.sl x (List.mem_of_getElem? hx))
      have hstep := Aside0.mk (mapS_take (f := numB s) (b := ⟨[], []⟩) hx)
      have hBok : Aside0 (BkOk s (mapS (numB s) ⟨[], []⟩ (s.fibers.take k)).2) := ⟨mapS_inv (P := BkOk s) (fun b v h => numB_ok h) _ _ ⟨List.nodup_nil, List.nodup_nil, fun k h => (by cases h), fun k h => (by cases h)⟩⟩
      have hZl : Aside0 (Z.length ≤ k) := ⟨by rw [hBC.out.1, mapS_len, List.length_take]; omega⟩
      have z0W := Aside0.mk z0w
      have hk0 : (0 : Int) ≤ k := by omega
      have hk1 : (k : Int) < s.fibers.length := by omega
      clear e2 hx hv hzz hzx z0w
      generalize (mapS (numB s) ⟨[], []⟩ (s.fibers.take k)).2 = b1 at hB hBok hstep
      generalize (mapS (numB s) ⟨[], []⟩ (s.fibers.take k)).1 = L1 at hBC hstep
      go_upto_region 13 with (fail)
      (try simp only [Act.put, List.setIfInBounds_toArray, List.set_cons_zero, List.set_cons_succ])
      generalize hW : World.alloc wo _ = Wv
      obtain ⟨gv, hgv⟩ : ∃ gv, gv = wo.heap.size := ⟨_, rfl⟩
      rw [← hgv]
      have hV0 : Aside0 (Wv.heap[gv]? = some (.cells #[.slice none 0 0] 51)) := ⟨by rw [hgv, ← hW]; exact heap_alloc_new wo _⟩
      have hzv : Aside0 (Chg (fun _ => False) wo Wv) := ⟨by rw [← hW]; exact cg⟩
      have hgvq := Aside0.mk hgv
      have hCv := Aside0.mk (hCh.out.trans hzv.out (fun _ _ h => h))
      have hBv := Aside0.mk (hB.out.new hzv.out)
      have hRv := Aside0.mk (hzv.out.blk hR.out (fun h => h))
      clear hW hgv
      have p2 : Wv.cell? ⟨w.heap.size, 2, none⟩ = some (.slice (some bd) s.fibers.length bc) := blk_cell hBv.out.qs 2
      have z0 := cell_chg0 z0W.out hCv.out
      go_wp2
      clear p2 z0
      go_loopw [38] (fun i wr => CnR2 w wo go gk mt ct mo co gw gf g2 gv tA oA (some bd) tc oc bc s (v3A, v3N, v3C) vwo b1 x.frames Z i wr) (fun i _ => x.frames.length - (intOf i).toNat)
      case atStart => exact ⟨0, 0, 0, none, [], v1, vwo, rfl, by omega, hRv, hV0, ⟨Ow.nil _ _ _ _⟩, ⟨rfl, fun k z x h => by simp at h⟩, hBv, ⟨Turn2.of_new hzv.out⟩, ⟨by simpa using hPA.out⟩⟩
      case round =>
        obtain ⟨wq, rfl⟩ : ∃ wq : World, wq = wr := ⟨_, rfl⟩
        have hBo := hB
        clear hR hB hV0 hzv hCv hBv hRv
        obtain ⟨j, lN, lC, lA, rs, v1, vw, rfl, hj, hR, hV, hO, hFC, hB, hT, hPB⟩ := hrel
        have hCq : Aside0 (Chg (fun _ => False) w wq) := ⟨Turn2.chg hCh.out hT.out⟩
        by_cases hlj : j < x.frames.length
        · obtain ⟨y, hy⟩ : ∃ y, x.frames[j]? = some y := ⟨_, List.getElem?_eq_getElem hlj⟩
          have hzq := hzA.out
          obtain ⟨fd, r, e1, e2, x0, x1, x2⟩ := atRF (C_chg hzq.1 (hCq.out.below (fun _ _ h => h))) j hlj
          simp only at e1
          subst e1
          have hry := hzq.2.2 j r y e2 hy
          have hsl := Aside0.mk hry.2.2
          have hsz := Aside0.mk (hfb.out y (List.mem_of_getElem? hy))
          have hsn := Aside0.mk (hfs.out y (List.mem_of_getElem? hy))
          have hrf := Aside0.mk hry.1
          have hrp := Aside0.mk hry.2.1
          have ht2 := Aside0.mk (mapS_take (f := numF s) (b := b1) hy)
          have hBok2 : Aside0 (BkOk s (mapS (numF s) b1 (x.frames.take j)).2) := ⟨mapS_inv (P := BkOk s) (fun b v h => numF_ok h) _ _ hBok.out⟩
          have hrl : Aside0 (rs.length ≤ j) := ⟨by rw [hFC.out.1, mapS_len, List.length_take]; omega⟩
          have hj0 : (0 : Int) ≤ j := by omega
          have hj1 : (j : Int) < x.frames.length := by omega
          clear e2 hy hzq hry
          generalize (mapS (numF s) b1 (x.frames.take j)).2 = B at hB hBok2 ht2
          generalize (mapS (numF s) b1 (x.frames.take j)).1 = L2 at hFC ht2
          go_upto_region 16 with (fail)
          (try simp only [Act.put, List.setIfInBounds_toArray, List.set_cons_zero, List.set_cons_succ])
          generalize hW : World.alloc wq _ = Wa
          obtain ⟨gq, hgq⟩ : ∃ gq, gq = wq.heap.size := ⟨_, rfl⟩
          rw [← hgq]
          have hF : Aside0 (Wa.heap[gq]? = some (.cells #[.int .i64 r.fn, .int .i64 r.pc, .slice r.slots.1 r.slots.2.1 r.slots.2.2] 54)) := ⟨by rw [hgq, ← hW]; exact heap_alloc_new wq _⟩
          have hza : Aside0 (Chg (fun _ => False) wq Wa) := ⟨by rw [← hW]; exact cg⟩
          have hCa := Aside0.mk (hCq.out.trans hza.out (fun _ _ h => h))
          have hBa := Aside0.mk (hB.out.new hza.out)
          have hgqo : Aside0 (wo.heap.size ≤ gq) := ⟨by rw [hgq]; exact hT.out.size⟩
          have hgqq := Aside0.mk hgq
          have hWa := Aside0.mk hCa.out.size
          have hltA : Aside0 (∀ y ∈ slotsZ Z ++ rs.map (·.slots), ∀ j, (svl y).ownBlock = some j → j < Wa.heap.size) := ⟨fun y hy j hj => by
            rcases List.mem_append.1 hy with h1 | h1
            · have h2 := bc_lt hBC.out y h1 j hj
              have h3 := hT.out.size
              have h4 := hza.out.size
              omega
            · have h2 := fc_lt hFC.out y h1 j hj
              have h4 := hza.out.size
              omega⟩
          clear hW hgq x0 x1 x2
          have p43 : Wa.cell? ⟨gq, 2, none⟩ = some (.slice r.slots.1 r.slots.2.1 r.slots.2.2) := blk_cell hF.out 2
          go_upto_region 17 with ((go_at_call 61; go_must (refine (each_fn w Wa w.heap.size go gk mt ct mo co gw gf tA oA (some bd) tc oc bc s B v1 (none, 0, 0) (v3A, v3N, v3C) vw ros rbs L r.slots.1 r.slots.2.1 r.slots.2.2 y.slots hBa.out hBok2.out hVA.out hCa.out hn1 hn2 hsl.out hsn.out hsz.out).mono ?_); go_must (rintro e w1 ⟨v1', vw', ⟨sA, sN, sC⟩, rfl, hB1, hT1, hO1⟩); go_must (replace hB1 := Aside0.mk hB1); go_must (replace hT1 := Aside0.mk hT1); go_must (replace hO1 := Aside0.mk hO1); go_must (simp only [svl]); go_must (have fx := blk_frozen (hBa.out.blk hT1.out hF.out (by decide)) 2); go_must (have cx := blk_cell (hBa.out.blk hT1.out hF.out (by decide)) 2)))
          (try simp only [Act.put, List.setIfInBounds_toArray, List.set_cons_zero, List.set_cons_succ])
          have hgvl : gv < gq := by have h1 := hgqq.out; have h2 := blk_lt hV.out; omega
          have hF1 := hBa.out.blk hT1.out hF.out (by decide)
          have hT1q : Turn2 wq w1 w.heap.size go vw vw' := Turn2.new_then hza.out hT1.out
          have hR5 := Aside0.mk (blk_setne (g := gq) (i := 2) (u := .slice sA sN sC) (hB.out.blkS hT1q hR.out hne.out.2.1) (by have := blk_lt hR.out; have := hgqq.out; omega))
          have hV5 := Aside0.mk (blk_setne (g := gq) (i := 2) (u := .slice sA sN sC) (hB.out.blk hT1q hV.out (by decide)) (by omega))
          have hF5 := Aside0.mk (blk_set hF1 2 (.slice sA sN sC))
          have hB5 := Aside0.mk (hB1.out.set (i := 2) (u := .slice sA sN sC) hF1 (by decide))
          have hS5 := Aside0.mk (ow_set (i := 2) (u := .slice sA sN sC) hO1.out hF1 (by decide))
          have hO5 := Aside0.mk ((ow_t2 hO.out hB.out hT1q (by decide)).chg (chg_set w1 gq 2 (.slice sA sN sC)) (fun b h1 h2 => by have h3 := hO.out.lt b h1; have h4 := hgqq.out; omega))
          have hFC5 := Aside0.mk ((hFC.out.turn2 hB.out hT1q).set (i := 2) (u := .slice sA sN sC) hF1 (by decide))
          have hT5 : Aside0 (Turn2 wo _ w.heap.size go vwo vw') := ⟨(hT.out.trans hT1q).set (g := gq) (i := 2) (u := .slice sA sN sC) hgqo.out⟩
          generalize hW : World.setCell w1 _ _ = W5 at hR5 hV5 hF5 hB5 hS5 hO5 hFC5 hT5 ⊢
          simp only [List.setIfInBounds_toArray, List.set_cons_zero, List.set_cons_succ] at hF5
          clear hW hT1q hF1 fx cx p43 hR hV hO hFC hB hB1 hT1 hO1 hF hCq hCa hBa hza hT
          have y0 : W5.cell? ⟨gq, 0, none⟩ = some (.int .i64 r.fn) := blk_cell hF5.out 0
          have y1 : W5.cell? ⟨gq, 1, none⟩ = some (.int .i64 r.pc) := blk_cell hF5.out 1
          have y2 : W5.cell? ⟨gq, 2, none⟩ = some (.slice sA sN sC) := blk_cell hF5.out 2
          have l0 : W5.cell? ⟨gv, 0, none⟩ = some (.slice lA lN lC) := blk_cell hV5.out 0
          have hz6 : Aside0 (Chg (fun _ => False) W5 W5) := ⟨Chg.refl _ _⟩
          have hRd := own_new0 hO5.out.1
          have hCd : Aside0 (Chg (fun b => (svl (lA, lN, lC)).ownBlock = some b) W5 W5) := ⟨Chg.refl _ _⟩
          have hl : Aside0 ((rs.length + 1) * 40 ≤ 140737488355328) := ⟨by have := hrl.out; omega⟩
          go_wp2_with ((at_builtin; go_must (refine app1H kRF rfl (.tmp 48) (.tmp 50) rfl Try.underlying49 infoRF rfl (by decide) (by decide) (⟨r.fn, r.pc, (sA, sN, sC)⟩ : RF) rfl rfl (by simp) (kRF_M _ _ _ _) hRd hCd hl ?_); go_must (intro v9 w2 hr2 hc2); go_must (obtain ⟨zA, zN, zC, rfl⟩ := R_sl hr2.out); go_must (have hV2 := Aside0.mk (hc2.out.blk hV5.out (fun e => ow_blk_ne hO5.out hV5.out (by decide) e))); go_must (have cv2 := blk_cell hV2.out 0); go_must (have fv2 := blk_frozen hV2.out 0)))
          go_roundw
          case measure => first | (simp [intOf]; done) | (simp [intOf]; omega)
          case rel =>
            have hgvo : wo.heap.size ≤ gv := by have := hgvq.out; omega
            have hlo5 := hT5.out.size
            have hO6 := ow_set (i := 0) (u := .slice zA zN zC) (Ow.app (v1 := (zA, zN, zC)) rfl hO5.out hr2.out hlo5) hV2.out (by decide)
            have hR6 := blk_setne (g := gv) (i := 0) (u := .slice zA zN zC) (hc2.out.blk hR5.out (fun e => ow_blk_ne hO5.out hR5.out (by decide) e)) (by rintro rfl; exact absurd (cells_t hR5.out hV5.out) (by decide))
            have hB6 := (hB5.out.row hO5.out (by decide) hc2.out).set (i := 0) (u := .slice zA zN zC) hV2.out (by decide)
            have hT6 := (hT5.out.then_own hc2.out (fun b hb => hO5.out.2 b hb)).set (g := gv) (i := 0) (u := .slice zA zN zC) hgvo
            have hS6 := ow_set (i := 0) (u := .slice zA zN zC) (hS5.out.chg hc2.out (fun b h1 h2 => Ow.ne hS5.out hO5.out (by decide) b h1 h2)) hV2.out (by decide)
            have hFC6 := (hFC5.out.hit hc2.out (Hits.own hO5.out (by decide))).set (i := 0) (u := .slice zA zN zC) hV2.out (by decide)
            refine ⟨j + 1, zN, zC, zA, rs ++ [⟨r.fn, r.pc, (sA, sN, sC)⟩], v1', vw', by go_num, by omega, ⟨hR6⟩, ⟨blk_set hV2.out 0 (.slice zA zN zC)⟩, ⟨hO6⟩, ⟨?_⟩, ⟨?_⟩, ⟨hT6⟩, ⟨by rw [List.map_append, ← List.append_assoc]; exact pw_snoc hPB.out (fun y hy => apart_lt (hltA.out y hy) hS5.out.2)⟩⟩
            · rw [ht2.out]
              exact pair_snoc (R := fun (r : RF) (x : QFr) => r.fn = x.fn ∧ r.pc = x.pc ∧ Ow kQV 56 _ w.heap.size r.slots x.slots) hFC6 ⟨hrf.out, hrp.out, hS6.mono hWa.out⟩
            · rw [ht2.out]; exact hB6
        · obtain rfl : j = x.frames.length := by omega
          rw [List.take_length] at hFC hB
          have hO3q := Aside0.mk (ow_t2 hO3.out hBo.out hT.out (by decide))
          have hBCq := Aside0.mk (hBC.out.turn2 hBo.out hT.out)
          have x2 : wq.cell? ⟨go, 2, none⟩ = some (.slice v3A v3N v3C) := blk_cell hB.out.qo 2
          have l0 : wq.cell? ⟨gv, 0, none⟩ = some (.slice lA lN lC) := blk_cell hV.out 0
          have hRd := own_new0 hO3q.out.1
          have hCd : Aside0 (Chg (fun b => (svl (v3A, v3N, v3C)).ownBlock = some b) wq wq) := ⟨Chg.refl _ _⟩
          have hl : Aside0 (((Z.map (·.1)).length + 1) * 24 ≤ 140737488355328) := ⟨by rw [List.length_map]; have := hZl.out; omega⟩
          have hz6 : Aside0 (Chg (fun _ => False) wq wq) := ⟨Chg.refl _ _⟩
          clear hj hlj
          go_wp2_with ((at_builtin; go_must (refine app1H kRB rfl (.tmp 55) (.tmp 57) rfl Try.underlying38 infoRB rfl (by decide) (by decide) (⟨(lA, lN, lC)⟩ : RB) rfl rfl (by simp) (kRB_M _ _ _ _) hRd hCd hl ?_); go_must (intro v9 w2 hr2 hc2); go_must (obtain ⟨zA, zN, zC, rfl⟩ := R_sl hr2.out); go_must (have hX2 := Aside0.mk (hc2.out.blk hB.out.qo (fun e => ow_blk_ne hO3q.out hB.out.qo (by decide) e))); go_must (have cx2 := blk_cell hX2.out 2); go_must (have fx2 := blk_frozen hX2.out 2)))
          go_roundw
          case measure => first | (simp [intOf]; done) | (simp [intOf]; omega)
          case rel =>
            have hszq := hT.out.size
            have hszo := hCh.out.size
            have hO4 := Ow.app (v1 := (zA, zN, zC)) rfl hO3q.out hr2.out (by omega)
            have hR2 := hc2.out.blk hR.out (fun e => ow_blk_ne hO3q.out hR.out (by decide) e)
            have hB2 := hB.out.row hO3q.out (by decide) hc2.out
            have hOl := hO.out.chg hc2.out (fun b h1 h2 => Ow.ne hO.out hO3q.out (by decide) b h1 h2)
            have hFC2 := hFC.out.hit hc2.out (Hits.own hO3q.out (by decide))
            have hBC2 := hBCq.out.hit hc2.out (Hits.own hO3q.out (by decide))
            have hfin := hFC2.set (i := 2) (u := .slice zA zN zC) hX2.out (by decide)
            have hbin := hBC2.set (i := 2) (u := .slice zA zN zC) hX2.out (by decide)
            have hlin := ow_set (i := 2) (u := .slice zA zN zC) hOl hX2.out (by decide)
            have hcin := chg_set_old (g := go) (i := 2) (u := .slice zA zN zC) (own_old (Turn2.chg hCh.out hT.out) hO3q.out hc2.out) (by have := hne.out.2.2; omega)
            refine ⟨k + 1, zN, zC, zA, Z ++ [(⟨(lA, lN, lC)⟩, rs)], v1, vw, by go_num, by omega, ⟨blk_setne hR2 hne.out.2.1⟩, ⟨?_⟩, ⟨?_⟩, ⟨?_⟩, ⟨?_⟩, ⟨hcin⟩, ⟨by rw [slotsZ_snoc]; exact hPB.out⟩⟩
            · rw [List.map_append]; exact ow_set hO4 hX2.out (by decide)
            · rw [hstep.out]
              exact pair_snoc (R := fun (z : RB × List RF) (x : QB) => Ow kRF 54 _ w.heap.size z.1.frames z.2 ∧ FC _ w.heap.size z.2 x.frames) hbin ⟨hlin.mono (by omega), by unfold numB; exact hfin⟩
            · exact BA.step (w := wo) (xs := L1) (k := L1.length) hBA.out (by rw [List.take_length]; exact hBC.out) (fun b hb => hO.out.2 b hb)
            · rw [hstep.out]; unfold numB; exact hB2.out2
    · obtain rfl : k = s.fibers.length := by omega
      rw [List.take_length] at hBC hB
      clear hk hlt
      go_wp2
      go_loopw [14] (fun i wr => CnR3 w go gk mt ct mo co gw gf g2 tA oA bA tc oc bc s v3A v3N v3C Z i wr) (fun i _ => s.objs.length - (intOf i).toNat)
      case atStart => exact ⟨0, 0, 0, none, [], v1, vwo, rfl, rfl, Nat.zero_le _, hR, ⟨Ow.nil _ _ _ _⟩, ⟨rfl, fun k z x h => by simp at h⟩, ⟨fun r hr => by cases hr⟩, hO3, hBC, hB, hCh, ⟨by simpa using hPA.out⟩, ⟨List.Pairwise.nil⟩⟩
      case round =>
        clear hR hO3 hBC hB hCh
        obtain ⟨k, v2N, v2C, v2A, ros2, v1, ⟨yA, yN, yC⟩, rfl, hIl, hIk, hR, hO2, hOC, hKo, hO3, hBC, hB, hCh, hPI, hPK⟩ := hrel
        have hBok : Aside0 (BkOk s (iterO s (startQ s).2 k).2) := ⟨iterO_ok (startQ_ok s) k⟩
        have hstep : Aside0 (iterO s (startQ s).2 (k + 1) = stepO s (iterO s (startQ s).2 k)) := ⟨rfl⟩
        have hend : Aside0 ((iterO s (startQ s).2 k).2.os.length = k → endQ s = iterO s (startQ s).2 k) := ⟨fun h => endQ_of hIl h⟩
        generalize iterO s (startQ s).2 k = a at hIl hIk hOC hB hBok hstep hend
        obtain ⟨L2, B⟩ := a
        simp only at hIl hIk hOC hB hBok hend
        obtain rfl : yN = B.os.length := (hB.out.rk.len).1.trans (by rw [List.length_map])
        have hno2 : B.os.length ≤ s.objs.length := nodup_lt hBok.out.no hBok.out.lo
        have p8 : wr.cell? ⟨gw, 0, none⟩ = some (.slice yA B.os.length yC) := blk_cell hB.out.qgw 0
        have hk0 : (0 : Int) ≤ k := by omega
        by_cases hlt : k < B.os.length
        · obtain ⟨m, hm⟩ : ∃ m, B.os[k]? = some m := ⟨_, List.getElem?_eq_getElem hlt⟩
          have hmo : m < s.objs.length := hBok.out.lo m (List.mem_of_getElem? hm)
          obtain ⟨ox, hox⟩ : ∃ ox, s.objs[m]? = some ox := ⟨_, List.getElem?_eq_getElem hmo⟩
          have hst := Aside0.mk (stepO_at (a := (L2, B)) (by simp only [hIl]; exact hm) hox)
          obtain ⟨ad, y, e1, e2, q0⟩ := i64_at hB.out.rk.toC k (by simpa using hlt)
          simp only at e1
          subst e1
          rw [List.getElem?_map, hm] at e2
          injection e2 with e2
          subst e2
          have hv := hVA.out.below (w' := wr) (hCh.out.below (fun _ _ h => h))
          obtain ⟨od, r, e1, e2, x0, x1, x2, x3, x4, x5⟩ := atRO hv.os m hmo
          subst e1
          have hro := Aside0.mk (hVA.out.ro m r ox e2 hox)
          have hxl := Aside0.mk (hS.out.oi ox (List.mem_of_getElem? hox))
          have hxi := Aside0.mk (hBd.out.it ox (List.mem_of_getElem? hox))
          have hxk := Aside0.mk (hBd.out.ky ox (List.mem_of_getElem? hox))
          have p1 : wr.cell? ⟨w.heap.size, 1, none⟩ = some (.slice (some od) s.objs.length oc) := blk_cell hB.out.qs 1
          have pf : wr.cell? ⟨gf, 0, none⟩ = some (.func (.func 58) #[] #[.pointer (some ⟨w.heap.size, 0, none⟩), .pointer (some ⟨ct, 0, none⟩), .pointer (some ⟨go, 0, none⟩)]) := blk_cell hB.out.qf 0
          have g1 : wr.cell? ⟨go, 1, none⟩ = some (.slice v2A v2N v2C) := blk_cell hB.out.qo 1
          have hwd : Aside0 (Chg (fun _ => False) wr wr.drew) := ⟨(Chg.refl (fun _ => False) wr).drew⟩
          have hk1 : (k : Int) < B.os.length := by omega
          have hm0 : (0 : Int) ≤ m := by omega
          have hm1 : (m : Int) < s.objs.length := by omega
          have hl : Aside0 ((ros2.length + 1) * 80 ≤ 140737488355328) := ⟨by rw [hOC.out.1, hIl]; omega⟩
          clear hm e2 hox hv hend
          go_upto_region 24 with (fail)
          (try simp only [Act.put, List.setIfInBounds_toArray, List.set_cons_zero, List.set_cons_succ])
          refine start_ (n := 17) (S := fun w' => w'.cell? ⟨w.heap.size, 1, none⟩ = some (.slice (some od) s.objs.length oc) ∧ w'.cell? ⟨gw, 0, none⟩ = some (.slice (some ad) B.os.length yC) ∧ w'.cell? (ad.add k) = some (.int .i64 (m : Int)) ∧ w'.cell? (od.add (m * 6)) = some (.int .i64 r.kind) ∧ w'.cell? ⟨(od.add (m * 6)).block, (od.add (m * 6)).off + 1, none⟩ = some (.slice r.items.1 r.items.2.1 r.items.2.2) ∧ w'.cell? ⟨(od.add (m * 6)).block, (od.add (m * 6)).off + 2, none⟩ = some (.slice r.keys.1 r.keys.2.1 r.keys.2.2) ∧ w'.cell? ⟨(od.add (m * 6)).block, (od.add (m * 6)).off + 3, none⟩ = some (.int .i64 r.fn) ∧ w'.cell? ⟨(od.add (m * 6)).block, (od.add (m * 6)).off + 4, none⟩ = some (.int .i64 r.cap) ∧ w'.cell? ⟨(od.add (m * 6)).block, (od.add (m * 6)).off + 5, none⟩ = some (.bool r.shut) ∧ w'.cell? ⟨gf, 0, none⟩ = some (.func (.func 58) #[] #[.pointer (some ⟨w.heap.size, 0, none⟩), .pointer (some ⟨ct, 0, none⟩), .pointer (some ⟨go, 0, none⟩)]) ∧ w'.cell? ⟨go, 1, none⟩ = some (.slice v2A v2N v2C)) (ds := [12, 13, 14, 16]) #[false, false, false, false, false, false, false, false, false, false, false, false, false, false, false, false, false] (by kernel_rfl) rfl rfl ⟨p1, p8, q0, x0, x1, x2, x3, x4, x5, pf, g1⟩ (fun hHeld => ?_)
          refine pure_ (i := 0) (N := some 67) (v := ?_) (a' := ?_) #[true, false, false, false, false, false, false, false, false, false, false, false, false, false, false, false, false] rfl rfl (by kernel_rfl) (fun _ _ _ h => h) (Or.inl ⟨by rfl, ?_⟩) ?_ ?_
          rotate_left
          · intro w'
            go_simp
            with_reducible rfl
          rotate_left
          · simp only [Act.put, List.setIfInBounds_toArray, List.set_cons_zero, List.set_cons_succ, i64_w, i32_w]
            rfl
          refine pure_ (i := 2) (N := some 69) (v := ?_) (a' := ?_) #[true, false, true, false, false, false, false, false, false, false, false, false, false, false, false, false, false] rfl rfl (by kernel_rfl) (fun _ _ _ h => h) (Or.inl ⟨by rfl, ?_⟩) ?_ ?_
          rotate_left
          · intro w'
            go_simp
            with_reducible rfl
          rotate_left
          · simp only [Act.put, List.setIfInBounds_toArray, List.set_cons_zero, List.set_cons_succ, i64_w, i32_w]
            rfl
          refine pure_ (i := 5) (N := some 72) (v := ?_) (a' := ?_) #[true, false, true, false, false, true, false, false, false, false, false, false, false, false, false, false, false] rfl rfl (by kernel_rfl) (fun _ _ _ h => h) (Or.inl ⟨by rfl, ?_⟩) ?_ ?_
          rotate_left
          · intro w'
            go_simp
            with_reducible rfl
          rotate_left
          · simp only [Act.put, List.setIfInBounds_toArray, List.set_cons_zero, List.set_cons_succ, i64_w, i32_w]
            rfl
          refine pure_ (i := 11) (N := some 78) (v := ?_) (a' := ?_) #[true, false, true, false, false, true, false, false, false, false, false, true, false, false, false, false, false] rfl rfl (by kernel_rfl) (fun _ _ _ h => h) (Or.inl ⟨by rfl, ?_⟩) ?_ ?_
          rotate_left
          · intro w'
            go_simp
            with_reducible rfl
          rotate_left
          · simp only [Act.put, List.setIfInBounds_toArray, List.set_cons_zero, List.set_cons_succ, i64_w, i32_w]
            rfl
          refine take_ (i := 3) (N := some 70) (v := ?_) (a' := ?_) #[true, false, true, true, false, true, false, false, false, false, false, true, false, false, false, false, false] rfl rfl (by kernel_rfl) (fun _ _ _ h => h) (Or.inl ⟨by rfl, ?_⟩) hHeld ?_ ?_
          rotate_left
          · rintro w' ⟨s0, s1, s2, s3, s4, s5, s6, s7, s8, s9, s10⟩
            go_simp
            with_reducible rfl
          rotate_left
          · simp only [Act.put, List.setIfInBounds_toArray, List.set_cons_zero, List.set_cons_succ, i64_w, i32_w]
            rfl
          refine take_ (i := 4) (N := some 71) (v := ?_) (a' := ?_) #[true, false, true, true, true, true, false, false, false, false, false, true, false, false, false, false, false] rfl rfl (by kernel_rfl) (fun _ _ _ h => h) (Or.inl ⟨by rfl, ?_⟩) hHeld ?_ ?_
          rotate_left
          · rintro w' ⟨s0, s1, s2, s3, s4, s5, s6, s7, s8, s9, s10⟩
            go_simp
            with_reducible rfl
          rotate_left
          · simp only [Act.put, List.setIfInBounds_toArray, List.set_cons_zero, List.set_cons_succ, i64_w, i32_w]
            rfl
          refine pure_ (i := 6) (N := some 73) (v := ?_) (a' := ?_) #[true, false, true, true, true, true, true, false, false, false, false, true, false, false, false, false, false] rfl rfl (by kernel_rfl) (fun _ _ _ h => h) (Or.inl ⟨by rfl, ?_⟩) ?_ ?_
          rotate_left
          · intro w'
            go_simp
            with_reducible rfl
          rotate_left
          · simp only [Act.put, List.setIfInBounds_toArray, List.set_cons_zero, List.set_cons_succ, i64_w, i32_w]
            rfl
          refine take_ (i := 7) (N := some 74) (v := ?_) (a' := ?_) #[true, false, true, true, true, true, true, true, false, false, false, true, false, false, false, false, false] rfl rfl (by kernel_rfl) (fun _ _ _ h => h) (Or.inl ⟨by rfl, ?_⟩) hHeld ?_ ?_
          rotate_left
          · rintro w' ⟨s0, s1, s2, s3, s4, s5, s6, s7, s8, s9, s10⟩
            go_simp
            with_reducible rfl
          rotate_left
          · simp only [Act.put, List.setIfInBounds_toArray, List.set_cons_zero, List.set_cons_succ, i64_w, i32_w]
            rfl
          refine pure_ (i := 8) (N := some 75) (v := ?_) (a' := ?_) #[true, false, true, true, true, true, true, true, true, false, false, true, false, false, false, false, false] rfl rfl (by kernel_rfl) (fun _ _ _ h => h) (Or.inl ⟨by rfl, ?_⟩) ?_ ?_
          rotate_left
          · intro w'
            go_simp
            with_reducible rfl
          rotate_left
          · simp only [Act.put, List.setIfInBounds_toArray, List.set_cons_zero, List.set_cons_succ, i64_w, i32_w]
            rfl
          refine take_ (i := 9) (N := some 76) (v := ?_) (a' := ?_) #[true, false, true, true, true, true, true, true, true, true, false, true, false, false, false, false, false] rfl rfl (by kernel_rfl) (fun _ _ _ h => h) (Or.inl ⟨by rfl, ?_⟩) hHeld ?_ ?_
          rotate_left
          · rintro w' ⟨s0, s1, s2, s3, s4, s5, s6, s7, s8, s9, s10⟩
            go_simp
            with_reducible rfl
          rotate_left
          · simp only [Act.put, List.setIfInBounds_toArray, List.set_cons_zero, List.set_cons_succ, i64_w, i32_w]
            rfl
          refine take_ (i := 10) (N := some 77) (v := ?_) (a' := ?_) #[true, false, true, true, true, true, true, true, true, true, true, true, false, false, false, false, false] rfl rfl (by kernel_rfl) (fun _ _ _ h => h) (Or.inl ⟨by rfl, ?_⟩) hHeld ?_ ?_
          rotate_left
          · rintro w' ⟨s0, s1, s2, s3, s4, s5, s6, s7, s8, s9, s10⟩
            go_simp
            with_reducible rfl
          rotate_left
          · simp only [Act.put, List.setIfInBounds_toArray, List.set_cons_zero, List.set_cons_succ, i64_w, i32_w]
            rfl
          refine join_ (σ := Nat × SV × SV × SV × SV) 3 #[true, true, true, true, true, true, true, true, true, true, true, true, true, true, false, false, false] (fun s0 => [(68, .slice v2A v2N v2C), (79, .agg #[.int .i64 (numO s B ox).1.kind, .slice s0.2.2.2.1.1 s0.2.2.2.1.2.1 s0.2.2.2.1.2.2, .slice s0.2.2.2.2.1 s0.2.2.2.2.2.1 s0.2.2.2.2.2.2, .int .i64 (numO s B ox).1.fn, .int .i64 (numO s B ox).1.cap, .bool (numO s B ox).1.shut]), (80, .slice (some ⟨s0.1, 0, none⟩) 1 1)]) (fun s0 w' => ∃ w1 : World, w' = w1.alloc (.cells #[.int .i64 (numO s B ox).1.kind, .slice s0.2.2.2.1.1 s0.2.2.2.1.2.1 s0.2.2.2.1.2.2, .slice s0.2.2.2.2.1 s0.2.2.2.2.2.1 s0.2.2.2.2.2.2, .int .i64 (numO s B ox).1.fn, .int .i64 (numO s B ox).1.cap, .bool (numO s B ox).1.shut] 59) ∧ s0.1 = w1.heap.size ∧ PBk w1 w.heap.size w.heap.size go gk mt ct mo co gw gf tA (some od) bA tc oc bc s (numO s B ox).2 s0.2.1 (v2A, v2N, v2C) (v3A, v3N, v3C) s0.2.2.1 ∧ Turn2 wr w1 w.heap.size go (some ad, B.os.length, yC) s0.2.2.1 ∧ Ow kQV 56 w1 wr.heap.size s0.2.2.2.1 (numO s B ox).1.items ∧ Ow (Kd.int .i64) 2 w1 wr.heap.size s0.2.2.2.2 (numO s B ox).1.keys ∧ apart s0.2.2.1 s0.2.2.2.2) ?_ ?_
          rotate_left
          · intro hCont
            refine twoJ_ (i := 1) (j := 12) (Ni := some 68) (Nj := some 79) #[true, true, true, true, true, true, true, true, true, true, true, true, false, false, false, false, false] #[true, false, true, true, true, true, true, true, true, true, true, true, true, false, false, false, false] rfl rfl rfl rfl (by kernel_rfl) (by decide) (fun K hK => ?_) (fun K hK => ?_)
            · refine value_ (w1 := ?_) (v := ?_) (by rfl) rfl ?_ ?_
              rotate_left 2
              · go_simp
                constructor
                · rfl
                · rfl
              refine hK.out _ _ (fun h => h) ?_
              clear hK K
              refine norm_ (a' := ?_) ?_ ?_
              rotate_left
              · show Act.put _ (some 68) _ = _
                simp only [Act.put, List.setIfInBounds_toArray, List.set_cons_zero, List.set_cons_succ, i64_w, i32_w]
                rfl
              refine last_ (i := 12) (N := some 79) #[true, true, true, true, true, true, true, true, true, true, true, true, true, false, false, false, false] rfl rfl (by kernel_rfl) (by decide) (fun K hK => ?_)
              refine goes_ Try.func62 (by kernel_rfl) rfl #[.agg (cellsRO r).toArray, .func (.func 58) #[] #[.pointer (some ⟨w.heap.size, 0, none⟩), .pointer (some ⟨ct, 0, none⟩), .pointer (some ⟨go, 0, none⟩)], .func (.func 59) #[] #[.pointer (some ⟨gf, 0, none⟩), .pointer (some ⟨gk, 0, none⟩), .pointer (some ⟨co, 0, none⟩), .pointer (some ⟨gw, 0, none⟩)]] (by rfl) rfl rfl (by simp only [List.map_toArray, List.map_cons, List.map_nil]; rfl) ?_
              with_reducible refine (renumbered_fn w wr.drew w.heap.size go gk mt ct mo co gw gf tA (some od) bA tc oc bc s B v1 (v2A, v2N, v2C) (v3A, v3N, v3C) (some ad, B.os.length, yC) ros rbs L r ox (hB.out.new hwd.out) hBok.out hVA.out (hCh.out.trans hwd.out (fun _ _ h => h)) hn1 hn2 hro.out hxi.out hxk.out hxl.out.1 hxl.out.2).mono ?_
              rintro e w1 ⟨v1', vw', ⟨iA, iN, iC⟩, ⟨kA, kN, kC⟩, rfl, hB1, hT1, hI1, hK1, hap1⟩
              refine ⟨.agg #[.int .i64 (numO s B ox).1.kind, .slice iA iN iC, .slice kA kN kC, .int .i64 (numO s B ox).1.fn, .int .i64 (numO s B ox).1.cap, .bool (numO s B ox).1.shut], rfl, ?_⟩
              refine hK.out _ _ ?_
              clear hK K
              refine norm_ (a' := ?_) ?_ ?_
              rotate_left
              · show Act.put _ (some 79) _ = _
                simp only [Act.put, List.setIfInBounds_toArray, List.set_cons_zero, List.set_cons_succ, i64_w, i32_w]
                rfl
              refine last_ (i := 13) (N := some 80) #[true, true, true, true, true, true, true, true, true, true, true, true, true, true, false, false, false] rfl rfl (by kernel_rfl) (by decide) (fun K hK => ?_)
              refine value_ (w1 := ?_) (v := ?_) (by rfl) rfl ?_ ?_
              rotate_left 2
              · go_simp
                constructor
                · rfl
                · rfl
              refine hK.out _ _ ?_
              clear hK K
              refine norm_ (a' := ?_) ?_ ?_
              rotate_left
              · show Act.put _ (some 80) _ = _
                simp only [Act.put, List.setIfInBounds_toArray, List.set_cons_zero, List.set_cons_succ, i64_w, i32_w]
                rfl
              exact norm_ (by first | (simp only [putAll, Act.put, List.setIfInBounds_toArray, List.set_cons_zero, List.set_cons_succ]; done) | (simp only [putAll, Act.put, List.setIfInBounds_toArray, List.set_cons_zero, List.set_cons_succ]; rfl)) (hCont (w1.heap.size, v1', vw', (iA, iN, iC), (kA, kN, kC)) _ ⟨w1, rfl, rfl, hB1, Turn2.new_then hwd.out hT1, hI1, hK1, hap1⟩)
            · refine goes_ Try.func62 (by kernel_rfl) rfl #[.agg (cellsRO r).toArray, .func (.func 58) #[] #[.pointer (some ⟨w.heap.size, 0, none⟩), .pointer (some ⟨ct, 0, none⟩), .pointer (some ⟨go, 0, none⟩)], .func (.func 59) #[] #[.pointer (some ⟨gf, 0, none⟩), .pointer (some ⟨gk, 0, none⟩), .pointer (some ⟨co, 0, none⟩), .pointer (some ⟨gw, 0, none⟩)]] (by rfl) rfl rfl (by simp only [List.map_toArray, List.map_cons, List.map_nil]; rfl) ?_
              with_reducible refine (renumbered_fn w wr.drew w.heap.size go gk mt ct mo co gw gf tA (some od) bA tc oc bc s B v1 (v2A, v2N, v2C) (v3A, v3N, v3C) (some ad, B.os.length, yC) ros rbs L r ox (hB.out.new hwd.out) hBok.out hVA.out (hCh.out.trans hwd.out (fun _ _ h => h)) hn1 hn2 hro.out hxi.out hxk.out hxl.out.1 hxl.out.2).mono ?_
              rintro e w1 ⟨v1', vw', ⟨iA, iN, iC⟩, ⟨kA, kN, kC⟩, rfl, hB1, hT1, hI1, hK1, hap1⟩
              refine ⟨.agg #[.int .i64 (numO s B ox).1.kind, .slice iA iN iC, .slice kA kN kC, .int .i64 (numO s B ox).1.fn, .int .i64 (numO s B ox).1.cap, .bool (numO s B ox).1.shut], rfl, ?_⟩
              refine hK.out _ _ ?_
              clear hK K
              refine norm_ (a' := ?_) ?_ ?_
              rotate_left
              · show Act.put _ (some 79) _ = _
                simp only [Act.put, List.setIfInBounds_toArray, List.set_cons_zero, List.set_cons_succ, i64_w, i32_w]
                rfl
              have g1' : w1.cell? ⟨go, 1, none⟩ = some (.slice v2A v2N v2C) := blk_cell hB1.qo 1
              refine twoJ_ (i := 1) (j := 13) (Ni := some 68) (Nj := some 80) #[true, true, true, true, true, true, true, true, true, true, true, true, true, false, false, false, false] #[true, false, true, true, true, true, true, true, true, true, true, true, true, true, false, false, false] rfl rfl rfl rfl (by kernel_rfl) (by decide) (fun K hK => ?_) (fun K hK => ?_)
              · refine value_ (w1 := ?_) (v := ?_) (by rfl) rfl ?_ ?_
                rotate_left 2
                · go_simp
                  constructor
                  · rfl
                  · rfl
                refine hK.out _ _ (fun h => h) ?_
                clear hK K
                refine norm_ (a' := ?_) ?_ ?_
                rotate_left
                · show Act.put _ (some 68) _ = _
                  simp only [Act.put, List.setIfInBounds_toArray, List.set_cons_zero, List.set_cons_succ, i64_w, i32_w]
                  rfl
                refine last_ (i := 13) (N := some 80) #[true, true, true, true, true, true, true, true, true, true, true, true, true, true, false, false, false] rfl rfl (by kernel_rfl) (by decide) (fun K hK => ?_)
                refine value_ (w1 := ?_) (v := ?_) (by rfl) rfl ?_ ?_
                rotate_left 2
                · go_simp
                  constructor
                  · rfl
                  · rfl
                refine hK.out _ _ ?_
                clear hK K
                refine norm_ (a' := ?_) ?_ ?_
                rotate_left
                · show Act.put _ (some 80) _ = _
                  simp only [Act.put, List.setIfInBounds_toArray, List.set_cons_zero, List.set_cons_succ, i64_w, i32_w]
                  rfl
                exact norm_ (by first | (simp only [putAll, Act.put, List.setIfInBounds_toArray, List.set_cons_zero, List.set_cons_succ]; done) | (simp only [putAll, Act.put, List.setIfInBounds_toArray, List.set_cons_zero, List.set_cons_succ]; rfl)) (hCont (w1.heap.size, v1', vw', (iA, iN, iC), (kA, kN, kC)) _ ⟨w1, rfl, rfl, hB1, Turn2.new_then hwd.out hT1, hI1, hK1, hap1⟩)
              · refine value_ (w1 := ?_) (v := ?_) (by rfl) rfl ?_ ?_
                rotate_left 2
                · go_simp
                  constructor
                  · rfl
                  · rfl
                refine hK.out _ _ ?_
                clear hK K
                refine norm_ (a' := ?_) ?_ ?_
                rotate_left
                · show Act.put _ (some 80) _ = _
                  simp only [Act.put, List.setIfInBounds_toArray, List.set_cons_zero, List.set_cons_succ, i64_w, i32_w]
                  rfl
                have g1'' := cellQ g1' (.cells #[.int .i64 (numO s B ox).1.kind, .slice iA iN iC, .slice kA kN kC, .int .i64 (numO s B ox).1.fn, .int .i64 (numO s B ox).1.cap, .bool (numO s B ox).1.shut] 59)
                refine oneI_ (i := 1) (N := some 68) #[true, true, true, true, true, true, true, true, true, true, true, true, true, true, false, false, false] rfl rfl (by kernel_rfl) (fun K hK => ?_)
                refine value_ (w1 := ?_) (v := ?_) (by rfl) rfl ?_ ?_
                rotate_left 2
                · go_simp
                  constructor
                  · rfl
                  · rfl
                refine hK.out _ _ (fun h => h) ?_
                clear hK K
                refine norm_ (a' := ?_) ?_ ?_
                rotate_left
                · show Act.put _ (some 68) _ = _
                  simp only [Act.put, List.setIfInBounds_toArray, List.set_cons_zero, List.set_cons_succ, i64_w, i32_w]
                  rfl
                exact norm_ (by first | (simp only [putAll, Act.put, List.setIfInBounds_toArray, List.set_cons_zero, List.set_cons_succ]; done) | (simp only [putAll, Act.put, List.setIfInBounds_toArray, List.set_cons_zero, List.set_cons_succ]; rfl)) (hCont (w1.heap.size, v1', vw', (iA, iN, iC), (kA, kN, kC)) _ ⟨w1, rfl, rfl, hB1, Turn2.new_then hwd.out hT1, hI1, hK1, hap1⟩)
          rintro ⟨H, v1', vw', ⟨iA, iN, iC⟩, ⟨kA, kN, kC⟩⟩ w' ⟨w1, rfl, hH, hB1, hT1, hI1, hK1, hap1⟩
          simp only at hH hB1 hT1 hI1 hK1 hap1
          subst hH
          refine norm_ (a' := ?_) ?_ ?_
          rotate_left
          · simp only [putAll, Act.put, List.setIfInBounds_toArray, List.set_cons_zero, List.set_cons_succ]
            rfl
          have hO21 := Aside0.mk (ow_t2 hO2.out hB.out hT1 (by decide))
          have hRd := own_new0 hO21.out.1
          have hCd : Aside0 (Chg (fun b => (svl (v2A, v2N, v2C)).ownBlock = some b) w1 w1) := ⟨Chg.refl _ _⟩
          refine last_ (i := 14) (N := some 81) #[true, true, true, true, true, true, true, true, true, true, true, true, true, true, true, false, false] rfl rfl (by kernel_rfl) (by decide) (fun K hK => ?_)
          refine app1T kRO (by rfl) (.tmp 68) (.tmp 80) (by rfl) Try.underlying37 infoRO rfl (by decide) (by decide) (⟨(numO s B ox).1.kind, (iA, iN, iC), (kA, kN, kC), (numO s B ox).1.fn, (numO s B ox).1.cap, (numO s B ox).1.shut⟩ : RO) (by rfl) (by rfl) (kRO_M _ _ _ _) hRd hCd hl ?_
          intro v9 w3 hr3 hc3
          obtain ⟨zA, zN, zC, rfl⟩ := R_sl hr3.out
          have hX3 := Aside0.mk (hc3.out.blk hB1.qo (fun e => ow_blk_ne hO21.out hB1.qo (by decide) e))
          have x1z := blk_cell hX3.out 1
          have fz := blk_frozen hX3.out 1
          refine hK.out _ _ ?_
          clear hK K
          refine norm_ (a' := ?_) ?_ ?_
          rotate_left
          · show Act.put _ (some 81) _ = _
            simp only [Act.put, List.setIfInBounds_toArray, List.set_cons_zero, List.set_cons_succ, i64_w, i32_w]
            rfl
          refine pure_ (i := 15) (N := some 82) (v := ?_) (a' := ?_) #[true, true, true, true, true, true, true, true, true, true, true, true, true, true, true, true, false] rfl rfl (by kernel_rfl) (fun _ _ _ h => h) (Or.inl ⟨by rfl, ?_⟩) ?_ ?_
          rotate_left
          · intro w'
            go_simp
            with_reducible rfl
          rotate_left
          · simp only [Act.put, List.setIfInBounds_toArray, List.set_cons_zero, List.set_cons_succ, i64_w, i32_w]
            rfl
          refine last_ (i := 16) (N := none) #[true, true, true, true, true, true, true, true, true, true, true, true, true, true, true, true, true] rfl rfl (by kernel_rfl) (by decide) (fun K hK => ?_)
          refine skip_ (w1 := ?_) (by rfl) rfl ?_ ?_
          rotate_left
          · go_simp
            rfl
          refine hK.out _ _ ?_
          clear hK K
          refine done_ (by kernel_rfl) ?_
          go_wp2
          go_roundw
          case measure => first | (simp [intOf]; done) | (simp [intOf]; omega)
          case rel =>
            have hlo1 : w.heap.size ≤ w1.heap.size := Nat.le_trans hCh.out.size hT1.size
            have hO4 := Ow.app (v1 := (zA, zN, zC)) rfl hO21.out hr3.out hlo1
            have hR1 := hB.out.blkS hT1 hR.out hne.out.2.1
            have hR3 := hc3.out.blk hR1 (fun e => ow_blk_ne hO21.out hR1 (by decide) e)
            have hB3 := hB1.row hO21.out (by decide) hc3.out
            have hO31 := ow_t2 hO3.out hB.out hT1 (by decide)
            have hO33 := hO31.chg hc3.out (fun b h1 h2 => Ow.ne hO31 hO21.out (by decide) b h1 h2)
            have hI3 := hI1.chg hc3.out (fun b h1 h2 => Ow.ne hI1 hO21.out (by decide) b h1 h2)
            have hK3 := hK1.chg hc3.out (fun b h1 h2 => Ow.ne hK1 hO21.out (by decide) b h1 h2)
            obtain ⟨hOC1, hKo1⟩ := hOC.out.turn2 hKo.out hB.out hT1
            have hOC3 := (hOC1.hit hc3.out (Hits.own hO21.out (by decide))).set (i := 1) (u := .slice zA zN zC) hX3.out (by decide)
            have hBC3 := ((hBC.out.turn2 hB.out hT1).hit hc3.out (Hits.own hO21.out (by decide))).set (i := 1) (u := .slice zA zN zC) hX3.out (by decide)
            have hC3 := chg_set_old (g := go) (i := 1) (u := .slice zA zN zC) (own_old (Turn2.chg hCh.out hT1) hO21.out hc3.out) (by have := hne.out.2.2; omega)
            have hgr := numO_len s B ox
            have hE1 := hstep.out.trans hst.out
            refine ⟨k + 1, zN, zC, zA, ros2 ++ [(⟨(numO s B ox).1.kind, (iA, iN, iC), (kA, kN, kC), (numO s B ox).1.fn, (numO s B ox).1.cap, (numO s B ox).1.shut⟩ : RO)], v1', vw', by go_num, ?_, ?_, ⟨blk_setne hR3 hne.out.2.1⟩, ⟨ow_set hO4 hX3.out (by decide)⟩, ⟨?_⟩, ⟨?_⟩, ⟨ow_set hO33 hX3.out (by decide)⟩, ⟨hBC3⟩, ⟨?_⟩, ⟨hC3⟩, ⟨by
              rw [List.map_append, ← List.append_assoc]
              exact pw_snoc hPI.out (fun y hy => apart_lt (n := wr.heap.size) (fun j hj => (List.mem_append.1 hy).elim (fun h1 => bc_lt hBC.out y h1 j hj) (fun h1 => oc_lt hOC.out y h1 j hj)) hI1.2)⟩, ⟨by
              rw [List.map_append]
              exact pw_snoc hPK.out (fun y hy => apart_lt (n := wr.heap.size) (fun j hj => oc_ltk hOC.out y hy j hj) hK1.2)⟩⟩
            · rw [hE1, List.length_append, hIl]; rfl
            · rw [hE1]; exact Nat.le_trans hlt hgr
            · rw [hE1]
              exact pair_snoc (R := fun (r : RO) (x : QO) => r.kind = x.kind ∧ r.fn = x.fn ∧ r.cap = x.cap ∧ r.shut = x.shut ∧ Ow kQV 56 _ w.heap.size r.items x.items ∧ Ow (Kd.int .i64) 2 _ w.heap.size r.keys x.keys) hOC3 ⟨rfl, rfl, rfl, rfl, ow_set (hI3.mono hCh.out.size) hX3.out (by decide), ow_set (hK3.mono hCh.out.size) hX3.out (by decide)⟩
            · intro r' hr'
              rcases List.mem_append.1 hr' with h7 | h7
              · exact hKo1 r' h7
              · rw [List.mem_singleton.1 h7]; exact hap1
            · rw [hE1]; exact hB3.out1
        · obtain rfl : k = B.os.length := by omega
          have hEnd := Aside0.mk (hend.out rfl)
          clear hend hstep hIk hlt hk0
          go_upto_region 25 with (fail)
          (try simp only [Act.put, List.setIfInBounds_toArray, List.set_cons_zero, List.set_cons_succ])
          clear p8
          obtain ⟨v1A, v1N, v1C⟩ := v1
          have hgo := Aside0.mk hB.out.qo
          simp only at hgo
          have x0 : wr.cell? ⟨go, 0, none⟩ = some (.slice v1A v1N v1C) := blk_cell hgo.out 0
          have x1 : wr.cell? ⟨go, 1, none⟩ = some (.slice v2A v2N v2C) := blk_cell hgo.out 1
          have x2 : wr.cell? ⟨go, 2, none⟩ = some (.slice v3A v3N v3C) := blk_cell hgo.out 2
          have x3 : wr.cell? ⟨go, 3, none⟩ = some (.int .i64 s.cur) := blk_cell hgo.out 3
          have x4 : wr.cell? ⟨go, 4, none⟩ = some (.int .i64 s.steps) := blk_cell hgo.out 4
          have x5 : wr.cell? ⟨go, 5, none⟩ = some (.int .i64 s.spent) := blk_cell hgo.out 5
          have x6 : wr.cell? ⟨go, 6, none⟩ = some (.int .i64 s.read) := blk_cell hgo.out 6
          have y0 : wr.cell? ⟨g2, 0, none⟩ = some (.slice none 0 0) := blk_cell hR.out 0
          have y1 : wr.cell? ⟨g2, 1, none⟩ = some (.slice none 0 0) := blk_cell hR.out 1
          have y2 : wr.cell? ⟨g2, 2, none⟩ = some (.slice none 0 0) := blk_cell hR.out 2
          have y3 : wr.cell? ⟨g2, 3, none⟩ = some (.int .i64 0) := blk_cell hR.out 3
          have y4 : wr.cell? ⟨g2, 4, none⟩ = some (.int .i64 0) := blk_cell hR.out 4
          have y5 : wr.cell? ⟨g2, 5, none⟩ = some (.int .i64 0) := blk_cell hR.out 5
          have y6 : wr.cell? ⟨g2, 6, none⟩ = some (.int .i64 0) := blk_cell hR.out 6
          have f0 : wr.frozen? ⟨g2, 0, none⟩ = false := blk_frozen hR.out 0
          have f1 : wr.frozen? ⟨g2, 1, none⟩ = false := blk_frozen hR.out 1
          have f2 : wr.frozen? ⟨g2, 2, none⟩ = false := blk_frozen hR.out 2
          have f3 : wr.frozen? ⟨g2, 3, none⟩ = false := blk_frozen hR.out 3
          have f4 : wr.frozen? ⟨g2, 4, none⟩ = false := blk_frozen hR.out 4
          have f5 : wr.frozen? ⟨g2, 5, none⟩ = false := blk_frozen hR.out 5
          have f6 : wr.frozen? ⟨g2, 6, none⟩ = false := blk_frozen hR.out 6
          have bf := (blk_set (blk_set (blk_set (blk_set (blk_set (blk_set (blk_set hR.out 0 (.slice v1A v1N v1C)) 1 (.slice v2A v2N v2C)) 2 (.slice v3A v3N v3C)) 3 (.int .i64 s.cur)) 4 (.int .i64 s.steps)) 5 (.int .i64 s.spent)) 6 (.int .i64 s.read))
          have hs4 : Chg (fun j => j = g2) wr (((((((wr.setCell ⟨g2, 0, none⟩ (.slice v1A v1N v1C)).setCell ⟨g2, 1, none⟩ (.slice v2A v2N v2C)).setCell ⟨g2, 2, none⟩ (.slice v3A v3N v3C)).setCell ⟨g2, 3, none⟩ (.int .i64 s.cur)).setCell ⟨g2, 4, none⟩ (.int .i64 s.steps)).setCell ⟨g2, 5, none⟩ (.int .i64 s.spent)).setCell ⟨g2, 6, none⟩ (.int .i64 s.read)) := ((((((((Chg.refl (fun j => j = g2) wr).setCell (p := ⟨g2, 0, none⟩) (fun _ => rfl) _).setCell (p := ⟨g2, 1, none⟩) (fun _ => rfl) _).setCell (p := ⟨g2, 2, none⟩) (fun _ => rfl) _).setCell (p := ⟨g2, 3, none⟩) (fun _ => rfl) _).setCell (p := ⟨g2, 4, none⟩) (fun _ => rfl) _).setCell (p := ⟨g2, 5, none⟩) (fun _ => rfl) _).setCell (p := ⟨g2, 6, none⟩) (fun _ => rfl) _)
          go_wp2
          refine bodyPost_ret (results_cell_row rfl _ _ _ _ _ _ _ rfl bf Try.underlying40 rfl (by kernel_rfl)) rfl ?_
          refine ⟨(v1A, v1N, v1C), (v2A, v2N, v2C), (v3A, v3N, v3C), ros2, Z, rfl, ⟨?_, ow_set7 hO2.out hs4 hR.out (by decide), ow_set7 hO3.out hs4 hR.out (by decide), ?_, hBC.out.hit hs4 (hits_set hR.out (by decide)), hBA.out⟩, hCh.out.trans hs4 (fun b hb h => by have := hne.out.1; omega), hPI.out, hPK.out⟩
          · have h7 := ow_set7 hB.out.rt hs4 hR.out (by decide)
            unfold CanonQ
            rw [hEnd.out]
            exact h7
          · unfold CanonQ
            rw [hEnd.out]
            exact hOC.out.hit hs4 (hits_set hR.out (by decide))
end Go.Proofs.Ytdoghjmanogelaa.K
