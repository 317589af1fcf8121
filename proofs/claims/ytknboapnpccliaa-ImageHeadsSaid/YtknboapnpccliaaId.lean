import Derived.Test.YtknboapnpccliaaIc
import Derived.IntWalk
import Derived.BigQuiet
namespace Go.Proofs.Ytknboapnpccliaa.K
open Go.RowKit Go.Proofs.YtknboapnpccliaaW.PrintWords Go.Proofs.YtknboapnpccliaaW.PrintLast Go.Proofs.YtknboapnpccliaaW.PrintMore
set_option linter.unusedVariables false
set_option linter.unusedSimpArgs false
set_option maxRecDepth 100000

theorem wpList_load_rowG {P : Program} {ops : Array Oper} {rest : List Oper} {o : Oper} {a : Act} {w : World} {Q : Exit → Act → World → Prop} (hw : Region.wanted o (yielded ops a.tmps) = true) (ty : TypeId) (x : Operand) (ho : o.op = .load ty x)
    (g : Nat) (hx : a.eval x = .pointer (some ⟨g, 0, none⟩)) (t : TypeId) (cs : Array Value) (fr : Nat × Nat) (d : TypeDesc) (hg : w.heap[g]? = some (.cells cs t fr))
    (hu : P.underlying ty = some d) (hd : (match d with | .struct _ | .array _ _ => true | _ => false) = true) (hi : (P.info? ty).map (·.size) = some cs.size)
    (h : wpList P ops Q rest (a.put o.dst (.agg cs)) w) : wpList P ops Q (o :: rest) a w :=
  wpList_step fun K hK => by rw [if_pos hw]; exact wp_load_row ty x ho g hx t cs fr d hg hu hd hi (hK _ _ h)
theorem img_num (w : World) (x : Int) : Calls Try.prog 37 #[.int .i64 x] w fun e w' => e = .returned (.int .i64 x) ∧ w = w' := by
  go_enter Try.func37, Try.ntmps37
  go_wp2
  go_ret
  exact ⟨rfl, rfl⟩
theorem R_CH {α : Type} {d : Kd α} {e n c : Nat} {w : World} {ok : Nat → Prop} {A : Option Addr} {xs : List α} (h : d.R e w 0 ok (.slice A n c) xs) : d.C w A n xs := by
  obtain ⟨h1, _, h3⟩ := Kd.R_reads' h
  rw [← h1] at h3
  exact h3
theorem own_cellsH {w : World} {ok : Nat → Prop} {A : Option Addr} {n c : Nat} {l : List Int} (h : Kd.R (Kd.int .u8) 5 w 0 ok (.slice A n c) l) (h0 : 0 < l.length) : ∃ g cur, A = some ⟨g, 0, none⟩ ∧ n = l.length ∧ n ≤ c ∧ w.heap[g]? = some (.cells cur 5 (0, 0)) ∧ cur.size = c ∧ ok g := by
  obtain ⟨hok, inner, ho, _⟩ := h
  rcases ho.2 with ⟨_, hn⟩ | ⟨g, cap, cur, hv, _, hg, hnc, _, hcs, _⟩
  · omega
  · injection hv with h1 h2 h3
    subst h1 h2 h3
    have e1 : (Kd.int .u8).sz = 1 := rfl
    rw [e1, Nat.mul_one] at hcs
    exact ⟨g, cur, rfl, rfl, hnc, hg, hcs, hok g rfl⟩
theorem D_facts (l : List Int) (hl : l.length = 32) : (nums .u8 l).toArray.size = 32 ∧ ((nums .u8 l).toArray.all (·.oneCell')) = true ∧ ∀ w : World, (Op.equalIn 10000 75 (.agg (nums .u8 l).toArray) (.agg (nums .u8 l).toArray)).run Try.prog w = .ok true w :=
  ⟨by simp [nums, hl], nums_one l, eq32 hl⟩
theorem byte_cellH {w : World} {g n p : Nat} {l : List Int} (h : Kd.C (Kd.int .u8) w (some ⟨g, 0, none⟩) n l) (hp : p < n) : w.cell? ⟨g, p, none⟩ = some (.int .u8 (l.getD p 0)) := by
  obtain ⟨ad, e1, hc⟩ := byte_at h p hp
  injection e1 with e1
  subst e1
  rwa [add_plain] at hc
theorem C_of_cells {w : World} {g : Nat} {l : List Int} (hl : l.length ≤ 9223372036854775807) (hc : ∀ j x, l[j]? = some x → w.cell? ⟨g, j, none⟩ = some (.int .u8 x)) : Kd.C (Kd.int .u8) w (some ⟨g, 0, none⟩) l.length l := by
  refine ⟨rfl, hl, fun _ => ⟨⟨g, 0, none⟩, rfl, fun j x hx => ?_⟩⟩
  refine ⟨[.int .u8 x], rfl, rfl, fun i u hu => ?_⟩
  match i, hu with
  | 0, hu =>
    simp at hu
    subst hu
    have e1 : (Kd.int .u8).sz = 1 := rfl
    rw [e1, add_plain]
    simpa using hc j x hx
theorem C_far {w w' : World} {g n g' : Nat} {l : List Int} (h : Kd.C (Kd.int .u8) w (some ⟨g, 0, none⟩) n l) (hc : Chg (fun k => k = g') w w') (hne : g ≠ g') : Kd.C (Kd.int .u8) w' (some ⟨g, 0, none⟩) n l := by
  have e0 := h.1
  have hl := h.2.1
  subst e0
  refine C_of_cells hl (fun j x hx => ?_)
  have hj := (List.getElem?_eq_some_iff.1 hx).1
  have h1 := byte_cellH h (by omega : j < l.length)
  rw [List.getD_eq_getElem?_getD, hx] at h1
  have hb := World.block_lt_of_cell? w _ h1
  have hk := hc.block g hb hne
  unfold World.cell? at h1 ⊢
  simp only at h1 ⊢
  rw [hk]
  exact h1
theorem poke_C {w : World} {g p n : Nat} {l X : List Int} {c : Int} {cur : Array Value} {t : TypeId} (h : Kd.C (Kd.int .u8) w (some ⟨g, 0, none⟩) n l) (hb : w.heap[g]? = some (.cells cur t (0, 0))) (hp : p < n) (hX : X = l.set p c) :
    Kd.C (Kd.int .u8) (w.setCell ⟨g, p, none⟩ (.int .u8 c)) (some ⟨g, 0, none⟩) n X := by
  have e0 := h.1
  have hl := h.2.1
  subst e0
  have hXl : X.length = l.length := by rw [hX, List.length_set]
  rw [← hXl]
  refine C_of_cells (by omega) (fun j x hx => ?_)
  rw [blk_cell (blk_set hb p _), Array.getElem?_setIfInBounds]
  have hj := (List.getElem?_eq_some_iff.1 hx).1
  have h1 := byte_cellH h (by omega : j < l.length)
  rw [blk_cell hb] at h1
  have hjs := (Array.getElem?_eq_some_iff.1 h1).1
  rw [hX, List.getElem?_set] at hx
  by_cases hjp : p = j
  · subst hjp
    rw [if_pos rfl, if_pos (by omega)] at hx
    injection hx with hx
    rw [if_pos rfl, if_pos hjs, hx]
  · rw [if_neg hjp] at hx
    rw [if_neg hjp, h1, List.getD_eq_getElem?_getD, hx]
    rfl
set_option maxHeartbeats 1000000
theorem law_imageHeads (w : World) (A : Option Addr) (nn cap : Nat) (bs : List Int) (at_ : Int) (hC : Kd.C (Kd.int .u8) w A nn bs) (hby : ∀ c ∈ bs, 0 ≤ c ∧ c < 256) (hn : bs.length ≤ 140737488355000) (ha0 : -9223372036854775808 ≤ at_) (ha1 : at_ ≤ 9223372036854775807) :
    Calls Try.prog 8 #[.slice A nn cap, .int .i64 at_] w fun e w' => e = .returned (.bool true) ∧ Below w.heap.size w w' := by
  have e0 := hC.1
  subst e0
  have hCA := Aside0.mk hC
  have hbyA := Aside0.mk hby
  have hR1 : Aside0 (∀ W, Chg (fun _ => False) w W → Calls Try.prog 35 #[.slice A bs.length cap] W fun e w' => e = .returned (.tuple #[.agg (nums .u8 (headP bs).1).toArray, .int .i64 (headP bs).2]) ∧ Chg (fun _ => False) W w') := ⟨fun W hW => ref_Head W A bs.length cap bs (C_chg hC (hW.below (fun _ _ h => h))) (by omega)⟩
  have hP1 : Aside0 (∀ W B c, Kd.C (Kd.int .u8) W B bs.length bs → Calls Try.prog 36 #[.slice B bs.length c] W fun e w' => e = .returned (.tuple #[.agg (nums .u8 (headP bs).1).toArray, .int .i64 (headP bs).2]) ∧ Chg (fun _ => False) W w') := ⟨fun W B c h => code_Head W B bs.length c bs h hby (by omega)⟩
  have hD1 := Aside0.mk (D_facts (headP bs).1 (headP_len bs))
  have hq1 := hD1.out.2.2
  generalize (nums .u8 (headP bs).1).toArray = D1 at hR1 hP1 hD1 hq1
  generalize (headP bs).2 = m1 at hR1 hP1
  clear hC hby
  by_cases h0 : 0 < bs.length
  · obtain ⟨hk0, hk1⟩ := pickP_lt (k := at_) h0
    obtain ⟨p, hp⟩ := Int.eq_ofNat_of_zero_le hk0
    have hpb : Aside0 (p < bs.length) := ⟨by omega⟩
    have hPick : Aside0 (∀ W, Calls Try.prog 39 #[.int .i64 at_, .int .i64 bs.length] W fun ev w' => ev = .returned (.int .i64 p) ∧ W = w') := ⟨fun W => by have h := kit_Pick W at_ bs.length ha0 ha1 (by omega); rw [hp] at h; exact h.mono (fun _ _ h => ⟨h.1, h.2.symm⟩)⟩
    have hbb := hbyA.out (bs.getD p 0) (by rw [List.getD_eq_getElem?_getD, List.getElem?_eq_getElem hpb.out]; exact List.getElem_mem hpb.out)
    obtain ⟨b, hbE⟩ : ∃ b, bs.getD p 0 = b := ⟨_, rfl⟩
    rw [hbE] at hbb
    obtain ⟨c, hcE⟩ : ∃ c, IntKind.u8.wrap (b + 1) = c := ⟨_, rfl⟩
    have hcb : 0 ≤ c ∧ c < 256 := by rw [← hcE]; simp [IntKind.wrap, IntKind.bits, IntKind.signed]; omega
    obtain ⟨X, hXE⟩ : ∃ X, X = bs.set p c := ⟨_, rfl⟩
    have hXl : Aside0 (X.length = bs.length) := ⟨by rw [hXE, List.length_set]⟩
    have hXb : ∀ c ∈ X, 0 ≤ c ∧ c < 256 := fun x hx => by rw [hXE] at hx; rcases List.mem_or_eq_of_mem_set hx with h | h; exact hbyA.out x h; rw [h]; exact hcb
    have hR2 : Aside0 (∀ W B c, Kd.C (Kd.int .u8) W B bs.length X → Calls Try.prog 35 #[.slice B bs.length c] W fun e w' => e = .returned (.tuple #[.agg (nums .u8 (headP X).1).toArray, .int .i64 (headP X).2]) ∧ Chg (fun _ => False) W w') := ⟨fun W B c h => ref_Head W B bs.length c X h (by have := hXl.out; omega)⟩
    have hP2 : Aside0 (∀ W B c, Kd.C (Kd.int .u8) W B bs.length X → Calls Try.prog 36 #[.slice B bs.length c] W fun e w' => e = .returned (.tuple #[.agg (nums .u8 (headP X).1).toArray, .int .i64 (headP X).2]) ∧ Chg (fun _ => False) W w') := ⟨fun W B c h => code_Head W B bs.length c X h hXb (by have := hXl.out; omega)⟩
    have hD2 := Aside0.mk (D_facts (headP X).1 (headP_len X))
    have hq2 := hD2.out.2.2
    generalize (nums .u8 (headP X).1).toArray = D2 at hR2 hP2 hD2 hq2
    generalize (headP X).2 = m2 at hR2 hP2
    have hlen : (0 : Int) < bs.length := by omega
    replace hXE := Aside0.mk hXE
    replace hbE := Aside0.mk hbE
    clear hk0 hk1 hp hbb hcb hXb h0
    go_enter Try.func8, Try.ntmps8
    go_wp2_with (first | (go_at_call 34; go_must (refine (kit_Lent _ A bs.length cap bs hCA.out (by omega)).mono ?_); go_must (rintro e w1 ⟨v1, rfl, hr1, hc1⟩); go_must (obtain ⟨A1, n1, cap1, rfl⟩ := R_sl hr1); go_must (obtain ⟨gx, cur0, rfl, q2, hle2, hb1, hs1, hg1⟩ := own_cellsH hr1 (by simp [marksB])); go_must (rw [List.length_append, marksB_length] at q2); go_must (subst q2); go_must (have p1 := Aside0.mk (R_CH hr1)); go_must (have i1 := Aside0.mk (by have := R_CH (Kd.R_take hr1 (m := bs.length) (by simp)); rw [List.take_left] at this; exact this)); go_must (clear hr1); go_must (have hle3 : bs.length ≤ cap1 := by omega); go_must (replace hb1 := Aside0.mk hb1); go_must (replace hs1 := Aside0.mk hs1); go_must (replace hg1 := Aside0.mk hg1); go_must (replace hc1 := Aside0.mk hc1)) | (go_at_call_of 35 cap; go_must (refine (hR1.out _ hc1.out).mono ?_); go_must (rintro e w2 ⟨rfl, hc2⟩); go_must (replace hc2 := Aside0.mk hc2)) | (go_at_call 36; refine (hP1.out _ _ cap1 (C_chg i1.out (hc3.out.below (fun _ _ h => h)))).mono ?_; go_must (rintro e w4 ⟨rfl, hc4⟩); go_must (have hga4 := Aside0.mk (hc4.blk hga.out (fun h => h))); go_must (have hc4s := Aside0.mk hc4.size); go_must (have hc4 := Aside0.mk (hc3.out.trans hc4 (fun _ _ h => h)))) | (go_at_call 37; go_must (refine (img_num _ _).mono ?_); go_must (rintro e w9 ⟨rfl, rfl⟩)) | (go_at_call 38; go_must (refine (kit_Kept _ _ A _ cap1 bs.length cap bs (C_chg p1.out (hc5.out.below (fun _ _ h => h))) (C_chg hCA.out ((hc1.out.trans hc5.out (fun _ _ h => h)).below (fun _ _ h => h))) (by omega)).mono ?_); go_must (rintro e w6 ⟨rfl, hc6⟩); go_must (have hc56 := hc5.out.trans hc6 (fun _ _ h => h)); go_must (have i6 := Aside0.mk (C_chg i1.out (hc56.below (fun _ _ h => h)))); go_must (have hb6 := Aside0.mk (hc56.blk hb1.out (fun h => h))); go_must (have hga6 := Aside0.mk (hc6.blk hga5.out (fun h => h))); go_must (have hgb6 := Aside0.mk (hc6.blk hgb.out (fun h => h))); go_must (have hcw6 := Aside0.mk (hc1.out.trans hc56 (fun _ _ h => h))); go_must (have hord : Aside0 (w.heap.size ≤ gx ∧ gx < ga ∧ ga < gb) := ⟨by have h1 := hg1.out; have h2 := hgaE.out; have h3 := hgbE.out; have h4 := hc2.out.size; have h5 := hc4s.out; have h6 := blk_lt hb1.out; have h7 := blk_lt hga.out; simp only [New, false_or] at h1; omega⟩); go_must (have x6 : w6.cell? ⟨gx, p, none⟩ = some (.int .u8 b) := by have := byte_cellH i6.out hpb.out; rw [hbE.out] at this; exact this); go_must (have f6 : w6.frozen? ⟨gx, p, none⟩ = false := blk_frozen hb6.out p); go_must (have hpn : (p : Int) < bs.length := by have := hpb.out; omega); go_must (have hp0 : (0 : Int) ≤ p := by omega); go_must (clear hc6 hc56)) | (go_at_call 39; go_must (refine (hPick.out _).mono ?_); go_must (rintro e w9 ⟨rfl, rfl⟩)) | (go_at_call 40; go_must (generalize hW : World.setCell w6 _ _ = W7); go_must (have hs7 : Chg (fun k => k = gx) w6 W7 := by rw [← hW]; exact (Chg.refl (fun k => k = gx) w6).setCell (p := ⟨gx, p, none⟩) (fun _ => rfl) _); go_must (have hC7 : Kd.C (Kd.int .u8) W7 (some ⟨gx, 0, none⟩) bs.length X := by rw [← hW]; exact poke_C i6.out hb6.out hpb.out hXE.out); go_must (clear hW); go_must (refine (ref_copy _ (some ⟨gx, 0, none⟩) bs.length cap1 X hC7 (by have := hXl.out; omega)).mono ?_); go_must (rintro e w8 ⟨v8, rfl, hr8, hc8⟩); go_must (obtain ⟨A8, n8, cap8, rfl⟩ := R_sl hr8); go_must (obtain ⟨q8, _, _⟩ := Kd.R_reads' hr8); go_must (rw [hXl.out] at q8); go_must (subst q8); go_must (have i8 := Aside0.mk (C_chg hC7 (hc8.below (fun _ _ h => h)))); go_must (have y8 := Aside0.mk (R_CH hr8)); go_must (have ha8 := Aside0.mk (hc8.blk (hs7.blk hga6.out (by have := hord.out; omega)) (fun h => h))); go_must (have hb8 := Aside0.mk (hc8.blk (hs7.blk hgb6.out (by have := hord.out; omega)) (fun h => h))); go_must (have hcw8 := Aside0.mk ((hcw6.out.mono (fun _ _ h => h.elim)).trans (hs7.trans hc8 (fun _ _ h => h.elim)) (fun k hk h => h) : Chg (fun k => k = gx) w w8)); go_must (clear hr8 hc8 hs7 hC7)) | (go_at_call_of 35 cap8; go_must (refine (hR2.out _ A8 cap8 y8.out).mono ?_); go_must (rintro e w9 ⟨rfl, hc9⟩); go_must (have i9 := Aside0.mk (C_chg i8.out (hc9.below (fun _ _ h => h)))); go_must (have ha9 := Aside0.mk (hc9.blk ha8.out (fun h => h))); go_must (have hb9 := Aside0.mk (hc9.blk hb8.out (fun h => h))); go_must (have hcw9 := Aside0.mk (hcw8.out.trans hc9 (fun _ _ h => h.elim))); go_must (clear hc9 y8)) | (go_at_call 36; refine (hP2.out _ (some ⟨gx, 0, none⟩) cap1 i10.out).mono ?_; go_must (rintro e w11 ⟨rfl, hc11⟩); go_must (have ha11 := Aside0.mk (hc11.blk ha10.out (fun h => h))); go_must (have hb11 := Aside0.mk (hc11.blk hb10.out (fun h => h))); go_must (have hcw11 := Aside0.mk (hcw10.out.trans hc11 (fun _ _ h => h.elim))); go_must (clear hc11 i10)) | (refine wpList_store_row rfl _ _ _ (by rfl) w2.heap.size D1 (by rfl) (by rfl) 75 _ (heap_alloc_new w2 _) (by rw [hD1.out.1]; kernel_rfl) (by rw [hD1.out.1]; rfl) hD1.out.2.1 ?_; go_must (generalize hW : World.setRow _ _ _ = W3); go_must (have hn : W3.heap[w2.heap.size]? = some (.cells D1 75 (0, 0)) := by rw [← hW]; exact setRow_heap _ _ _ D1 _ _ (heap_alloc_new w2 _)); go_must (have hcn : Chg (fun _ => False) w2 W3 := by rw [← hW]; exact ((Chg.refl (fun _ => False) w2).alloc _).trans (chg_setRow _ _ _) (fun k hk h => by omega)); go_must (clear hW); go_must (have hsz1 := hcn.size); go_must (obtain ⟨ga, hgE⟩ : ∃ ga, ga = w2.heap.size := ⟨_, rfl⟩); go_must (rw [← hgE] at hn ⊢); go_must (have hga := Aside0.mk hn); go_must (have hgaE := Aside0.mk hgE); go_must (clear hgE); go_must (have hc3 := Aside0.mk (hc2.out.trans hcn (fun _ _ h => h))); go_must (clear hn hcn)) | (refine wpList_store_row rfl _ _ _ (by rfl) w4.heap.size D1 (by rfl) (by rfl) 75 _ (heap_alloc_new w4 _) (by rw [hD1.out.1]; kernel_rfl) (by rw [hD1.out.1]; rfl) hD1.out.2.1 ?_; go_must (generalize hW : World.setRow _ _ _ = W5); go_must (have hn : W5.heap[w4.heap.size]? = some (.cells D1 75 (0, 0)) := by rw [← hW]; exact setRow_heap _ _ _ D1 _ _ (heap_alloc_new w4 _)); go_must (have hcn : Chg (fun _ => False) w4 W5 := by rw [← hW]; exact ((Chg.refl (fun _ => False) w4).alloc _).trans (chg_setRow _ _ _) (fun k hk h => by omega)); go_must (clear hW); go_must (have hsz2 := hcn.size); go_must (obtain ⟨gb, hgE⟩ : ∃ gb, gb = w4.heap.size := ⟨_, rfl⟩); go_must (rw [← hgE] at hn ⊢); go_must (have hgb := Aside0.mk hn); go_must (have hgbE := Aside0.mk hgE); go_must (clear hgE); go_must (have hga5 := Aside0.mk (hcn.blk hga4.out (fun h => h))); go_must (have hc5 := Aside0.mk (hc4.out.trans hcn (fun _ _ h => h))); go_must (clear hn hcn)) | (refine wpList_store_row rfl _ _ _ (by rfl) ga D2 (by rfl) (by rfl) 75 D1 ha9.out (by rw [hD2.out.1]; kernel_rfl) (by rw [hD1.out.1, hD2.out.1]) hD2.out.2.1 ?_; go_must (generalize hW : World.setRow _ _ _ = W10); go_must (have ha10 : Aside0 (W10.heap[ga]? = some (.cells D2 75 (0, 0))) := ⟨by rw [← hW]; exact setRow_heap _ _ _ D2 _ _ ha9.out⟩); go_must (have hcn : Chg (fun k => k = ga) w9 W10 := by rw [← hW]; exact chg_setRow _ _ _); go_must (have hb10 := Aside0.mk (hcn.blk hb9.out (by have := hord.out; omega))); go_must (have i10 := Aside0.mk (C_far i9.out hcn (by have := hord.out; omega))); go_must (have hcw10 := Aside0.mk ((hcw9.out.mono (fun k hk h => Or.inl h)).trans hcn (fun k hk h => Or.inr h) : Chg (fun k => k = gx ∨ k = ga) w W10)); go_must (clear hW hcn)) | (refine wpList_store_row rfl _ _ _ (by rfl) gb D2 (by rfl) (by rfl) 75 D1 hb11.out (by rw [hD2.out.1]; kernel_rfl) (by rw [hD1.out.1, hD2.out.1]) hD2.out.2.1 ?_; go_must (generalize hW : World.setRow _ _ _ = W12); go_must (have hb12 : Aside0 (W12.heap[gb]? = some (.cells D2 75 (0, 0))) := ⟨by rw [← hW]; exact setRow_heap _ _ _ D2 _ _ hb11.out⟩); go_must (have hcn : Chg (fun k => k = gb) w11 W12 := by rw [← hW]; exact chg_setRow _ _ _); go_must (have ha12 := Aside0.mk (hcn.blk ha11.out (by have := hord.out; omega))); go_must (have hcw12 := Aside0.mk ((hcw11.out.mono (fun k hk h => Or.inl h)).trans hcn (fun k hk h => Or.inr h) : Chg (fun k => (k = gx ∨ k = ga) ∨ k = gb) w W12)); go_must (clear hW hcn)) | (refine wpList_load_rowG (by rfl) _ _ (by rfl) gb (by rfl) 75 D1 (0, 0) _ hgb.out Try.underlying75 rfl (by rw [hD1.out.1]; kernel_rfl) ?_) | (refine wpList_load_rowG (by rfl) _ _ (by rfl) ga (by rfl) 75 D1 (0, 0) _ hga5.out Try.underlying75 rfl (by rw [hD1.out.1]; kernel_rfl) ?_) | (refine wpList_load_rowG (by rfl) _ _ (by rfl) gb (by rfl) 75 D2 (0, 0) _ hb12.out Try.underlying75 rfl (by rw [hD2.out.1]; kernel_rfl) ?_) | (refine wpList_load_rowG (by rfl) _ _ (by rfl) ga (by rfl) 75 D2 (0, 0) _ ha12.out Try.underlying75 rfl (by rw [hD2.out.1]; kernel_rfl) ?_))
    go_ret
    exact ⟨rfl, hcw12.out.below (fun k hk h => by have := hord.out; omega)⟩
  · obtain ⟨X, hXE⟩ : ∃ X, X = bs := ⟨_, rfl⟩
    have hXl : Aside0 (X.length = bs.length) := ⟨by rw [hXE]⟩
    have hXb : ∀ c ∈ X, 0 ≤ c ∧ c < 256 := fun x hx => by rw [hXE] at hx; exact hbyA.out x hx
    have hR2 : Aside0 (∀ W B c, Kd.C (Kd.int .u8) W B bs.length X → Calls Try.prog 35 #[.slice B bs.length c] W fun e w' => e = .returned (.tuple #[.agg (nums .u8 (headP X).1).toArray, .int .i64 (headP X).2]) ∧ Chg (fun _ => False) W w') := ⟨fun W B c h => ref_Head W B bs.length c X h (by have := hXl.out; omega)⟩
    have hP2 : Aside0 (∀ W B c, Kd.C (Kd.int .u8) W B bs.length X → Calls Try.prog 36 #[.slice B bs.length c] W fun e w' => e = .returned (.tuple #[.agg (nums .u8 (headP X).1).toArray, .int .i64 (headP X).2]) ∧ Chg (fun _ => False) W w') := ⟨fun W B c h => code_Head W B bs.length c X h hXb (by have := hXl.out; omega)⟩
    have hD2 := Aside0.mk (D_facts (headP X).1 (headP_len X))
    have hq2 := hD2.out.2.2
    generalize (nums .u8 (headP X).1).toArray = D2 at hR2 hP2 hD2 hq2
    generalize (headP X).2 = m2 at hR2 hP2
    have hlen : ¬ (0 : Int) < bs.length := by omega
    replace hXE := Aside0.mk hXE
    clear hXb h0
    go_enter Try.func8, Try.ntmps8
    go_wp2_with (first | (go_at_call 34; go_must (refine (kit_Lent _ A bs.length cap bs hCA.out (by omega)).mono ?_); go_must (rintro e w1 ⟨v1, rfl, hr1, hc1⟩); go_must (obtain ⟨A1, n1, cap1, rfl⟩ := R_sl hr1); go_must (obtain ⟨gx, cur0, rfl, q2, hle2, hb1, hs1, hg1⟩ := own_cellsH hr1 (by simp [marksB])); go_must (rw [List.length_append, marksB_length] at q2); go_must (subst q2); go_must (have p1 := Aside0.mk (R_CH hr1)); go_must (have i1 := Aside0.mk (by have := R_CH (Kd.R_take hr1 (m := bs.length) (by simp)); rw [List.take_left] at this; exact this)); go_must (clear hr1); go_must (have hle3 : bs.length ≤ cap1 := by omega); go_must (replace hb1 := Aside0.mk hb1); go_must (replace hs1 := Aside0.mk hs1); go_must (replace hg1 := Aside0.mk hg1); go_must (replace hc1 := Aside0.mk hc1)) | (go_at_call_of 35 cap; go_must (refine (hR1.out _ hc1.out).mono ?_); go_must (rintro e w2 ⟨rfl, hc2⟩); go_must (replace hc2 := Aside0.mk hc2)) | (go_at_call 36; refine (hP1.out _ _ cap1 (C_chg i1.out (hc3.out.below (fun _ _ h => h)))).mono ?_; go_must (rintro e w4 ⟨rfl, hc4⟩); go_must (have hga4 := Aside0.mk (hc4.blk hga.out (fun h => h))); go_must (have hc4s := Aside0.mk hc4.size); go_must (have hc4 := Aside0.mk (hc3.out.trans hc4 (fun _ _ h => h)))) | (go_at_call 37; go_must (refine (img_num _ _).mono ?_); go_must (rintro e w9 ⟨rfl, rfl⟩)) | (go_at_call 38; go_must (refine (kit_Kept _ _ A _ cap1 bs.length cap bs (C_chg p1.out (hc5.out.below (fun _ _ h => h))) (C_chg hCA.out ((hc1.out.trans hc5.out (fun _ _ h => h)).below (fun _ _ h => h))) (by omega)).mono ?_); go_must (rintro e w6 ⟨rfl, hc6⟩); go_must (have hc56 := hc5.out.trans hc6 (fun _ _ h => h)); go_must (have i6 := Aside0.mk (C_chg i1.out (hc56.below (fun _ _ h => h)))); go_must (have hb6 := Aside0.mk (hc56.blk hb1.out (fun h => h))); go_must (have hga6 := Aside0.mk (hc6.blk hga5.out (fun h => h))); go_must (have hgb6 := Aside0.mk (hc6.blk hgb.out (fun h => h))); go_must (have hcw6 := Aside0.mk (hc1.out.trans hc56 (fun _ _ h => h))); go_must (have hord : Aside0 (w.heap.size ≤ gx ∧ gx < ga ∧ ga < gb) := ⟨by have h1 := hg1.out; have h2 := hgaE.out; have h3 := hgbE.out; have h4 := hc2.out.size; have h5 := hc4s.out; have h6 := blk_lt hb1.out; have h7 := blk_lt hga.out; simp only [New, false_or] at h1; omega⟩); go_must (clear hc6 hc56)) | (go_at_call 40; go_must (have hs7 : Chg (fun k => k = gx) w6 w6 := Chg.refl _ _); go_must (have hC7 : Kd.C (Kd.int .u8) w6 (some ⟨gx, 0, none⟩) bs.length X := by rw [hXE.out]; exact i6.out); go_must (refine (ref_copy _ (some ⟨gx, 0, none⟩) bs.length cap1 X hC7 (by have := hXl.out; omega)).mono ?_); go_must (rintro e w8 ⟨v8, rfl, hr8, hc8⟩); go_must (obtain ⟨A8, n8, cap8, rfl⟩ := R_sl hr8); go_must (obtain ⟨q8, _, _⟩ := Kd.R_reads' hr8); go_must (rw [hXl.out] at q8); go_must (subst q8); go_must (have i8 := Aside0.mk (C_chg hC7 (hc8.below (fun _ _ h => h)))); go_must (have y8 := Aside0.mk (R_CH hr8)); go_must (have ha8 := Aside0.mk (hc8.blk (hs7.blk hga6.out (by have := hord.out; omega)) (fun h => h))); go_must (have hb8 := Aside0.mk (hc8.blk (hs7.blk hgb6.out (by have := hord.out; omega)) (fun h => h))); go_must (have hcw8 := Aside0.mk ((hcw6.out.mono (fun _ _ h => h.elim)).trans (hs7.trans hc8 (fun _ _ h => h.elim)) (fun k hk h => h) : Chg (fun k => k = gx) w w8)); go_must (clear hr8 hc8 hs7 hC7)) | (go_at_call_of 35 cap8; go_must (refine (hR2.out _ A8 cap8 y8.out).mono ?_); go_must (rintro e w9 ⟨rfl, hc9⟩); go_must (have i9 := Aside0.mk (C_chg i8.out (hc9.below (fun _ _ h => h)))); go_must (have ha9 := Aside0.mk (hc9.blk ha8.out (fun h => h))); go_must (have hb9 := Aside0.mk (hc9.blk hb8.out (fun h => h))); go_must (have hcw9 := Aside0.mk (hcw8.out.trans hc9 (fun _ _ h => h.elim))); go_must (clear hc9 y8)) | (go_at_call 36; refine (hP2.out _ (some ⟨gx, 0, none⟩) cap1 i10.out).mono ?_; go_must (rintro e w11 ⟨rfl, hc11⟩); go_must (have ha11 := Aside0.mk (hc11.blk ha10.out (fun h => h))); go_must (have hb11 := Aside0.mk (hc11.blk hb10.out (fun h => h))); go_must (have hcw11 := Aside0.mk (hcw10.out.trans hc11 (fun _ _ h => h.elim))); go_must (clear hc11 i10)) | (refine wpList_store_row rfl _ _ _ (by rfl) w2.heap.size D1 (by rfl) (by rfl) 75 _ (heap_alloc_new w2 _) (by rw [hD1.out.1]; kernel_rfl) (by rw [hD1.out.1]; rfl) hD1.out.2.1 ?_; go_must (generalize hW : World.setRow _ _ _ = W3); go_must (have hn : W3.heap[w2.heap.size]? = some (.cells D1 75 (0, 0)) := by rw [← hW]; exact setRow_heap _ _ _ D1 _ _ (heap_alloc_new w2 _)); go_must (have hcn : Chg (fun _ => False) w2 W3 := by rw [← hW]; exact ((Chg.refl (fun _ => False) w2).alloc _).trans (chg_setRow _ _ _) (fun k hk h => by omega)); go_must (clear hW); go_must (have hsz1 := hcn.size); go_must (obtain ⟨ga, hgE⟩ : ∃ ga, ga = w2.heap.size := ⟨_, rfl⟩); go_must (rw [← hgE] at hn ⊢); go_must (have hga := Aside0.mk hn); go_must (have hgaE := Aside0.mk hgE); go_must (clear hgE); go_must (have hc3 := Aside0.mk (hc2.out.trans hcn (fun _ _ h => h))); go_must (clear hn hcn)) | (refine wpList_store_row rfl _ _ _ (by rfl) w4.heap.size D1 (by rfl) (by rfl) 75 _ (heap_alloc_new w4 _) (by rw [hD1.out.1]; kernel_rfl) (by rw [hD1.out.1]; rfl) hD1.out.2.1 ?_; go_must (generalize hW : World.setRow _ _ _ = W5); go_must (have hn : W5.heap[w4.heap.size]? = some (.cells D1 75 (0, 0)) := by rw [← hW]; exact setRow_heap _ _ _ D1 _ _ (heap_alloc_new w4 _)); go_must (have hcn : Chg (fun _ => False) w4 W5 := by rw [← hW]; exact ((Chg.refl (fun _ => False) w4).alloc _).trans (chg_setRow _ _ _) (fun k hk h => by omega)); go_must (clear hW); go_must (have hsz2 := hcn.size); go_must (obtain ⟨gb, hgE⟩ : ∃ gb, gb = w4.heap.size := ⟨_, rfl⟩); go_must (rw [← hgE] at hn ⊢); go_must (have hgb := Aside0.mk hn); go_must (have hgbE := Aside0.mk hgE); go_must (clear hgE); go_must (have hga5 := Aside0.mk (hcn.blk hga4.out (fun h => h))); go_must (have hc5 := Aside0.mk (hc4.out.trans hcn (fun _ _ h => h))); go_must (clear hn hcn)) | (refine wpList_store_row rfl _ _ _ (by rfl) ga D2 (by rfl) (by rfl) 75 D1 ha9.out (by rw [hD2.out.1]; kernel_rfl) (by rw [hD1.out.1, hD2.out.1]) hD2.out.2.1 ?_; go_must (generalize hW : World.setRow _ _ _ = W10); go_must (have ha10 : Aside0 (W10.heap[ga]? = some (.cells D2 75 (0, 0))) := ⟨by rw [← hW]; exact setRow_heap _ _ _ D2 _ _ ha9.out⟩); go_must (have hcn : Chg (fun k => k = ga) w9 W10 := by rw [← hW]; exact chg_setRow _ _ _); go_must (have hb10 := Aside0.mk (hcn.blk hb9.out (by have := hord.out; omega))); go_must (have i10 := Aside0.mk (C_far i9.out hcn (by have := hord.out; omega))); go_must (have hcw10 := Aside0.mk ((hcw9.out.mono (fun k hk h => Or.inl h)).trans hcn (fun k hk h => Or.inr h) : Chg (fun k => k = gx ∨ k = ga) w W10)); go_must (clear hW hcn)) | (refine wpList_store_row rfl _ _ _ (by rfl) gb D2 (by rfl) (by rfl) 75 D1 hb11.out (by rw [hD2.out.1]; kernel_rfl) (by rw [hD1.out.1, hD2.out.1]) hD2.out.2.1 ?_; go_must (generalize hW : World.setRow _ _ _ = W12); go_must (have hb12 : Aside0 (W12.heap[gb]? = some (.cells D2 75 (0, 0))) := ⟨by rw [← hW]; exact setRow_heap _ _ _ D2 _ _ hb11.out⟩); go_must (have hcn : Chg (fun k => k = gb) w11 W12 := by rw [← hW]; exact chg_setRow _ _ _); go_must (have ha12 := Aside0.mk (hcn.blk ha11.out (by have := hord.out; omega))); go_must (have hcw12 := Aside0.mk ((hcw11.out.mono (fun k hk h => Or.inl h)).trans hcn (fun k hk h => Or.inr h) : Chg (fun k => (k = gx ∨ k = ga) ∨ k = gb) w W12)); go_must (clear hW hcn)) | (refine wpList_load_rowG (by rfl) _ _ (by rfl) gb (by rfl) 75 D1 (0, 0) _ hgb.out Try.underlying75 rfl (by rw [hD1.out.1]; kernel_rfl) ?_) | (refine wpList_load_rowG (by rfl) _ _ (by rfl) ga (by rfl) 75 D1 (0, 0) _ hga5.out Try.underlying75 rfl (by rw [hD1.out.1]; kernel_rfl) ?_) | (refine wpList_load_rowG (by rfl) _ _ (by rfl) gb (by rfl) 75 D2 (0, 0) _ hb12.out Try.underlying75 rfl (by rw [hD2.out.1]; kernel_rfl) ?_) | (refine wpList_load_rowG (by rfl) _ _ (by rfl) ga (by rfl) 75 D2 (0, 0) _ ha12.out Try.underlying75 rfl (by rw [hD2.out.1]; kernel_rfl) ?_))
    go_ret
    exact ⟨rfl, hcw12.out.below (fun k hk h => by have := hord.out; omega)⟩

end Go.Proofs.Ytknboapnpccliaa.K
