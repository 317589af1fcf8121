import Derived.Test.YthmghcjkmmhgnaaEd
import Derived.Test.YthmghcjkmmhgnaaNb
import Derived.IntWalk
import Derived.Deep.RegionWith
namespace Go.Proofs.Ythmghcjkmmhgnaa.K
open Go.RowKit Go.Proofs.YthmghcjkmmhgnaaW.PrintWords Go.Proofs.YthmghcjkmmhgnaaW.PrintLast Go.Proofs.YthmghcjkmmhgnaaW.PrintMore
set_option linter.unusedVariables false
set_option linter.unusedSimpArgs false
set_option maxRecDepth 100000

theorem enc_num (w : World) (x : Int) : Calls Try.prog 32 #[.int .i64 x] w fun e w' => e = .returned (.int .i64 x) ∧ w = w' := by
  go_enter Try.func32, Try.ntmps32
  go_wp2
  go_ret
  exact ⟨rfl, rfl⟩
/-- What is written over. -/
def overL (n : Nat) : List Instr := (List.range n).map (fun j : Nat => (⟨10, (j : Int) % 64⟩ : Instr))
theorem overL_get {n j : Nat} {x : Instr} (h : (overL n)[j]? = some x) : j < n ∧ x = ⟨10, (j : Int) % 64⟩ := by
  obtain ⟨hj, e⟩ := List.getElem?_eq_some_iff.1 h
  simp [overL] at hj e
  exact ⟨hj, e.symm⟩
theorem over_C {w : World} {g n : Nat} {cur : Array Value} (h : w.heap[g]? = some (.cells cur 35 (0, 0))) (hn : n ≤ 9223372036854775807) (hc : ∀ j, j < n → cur[j * 2]? = some (.int .i64 10) ∧ cur[j * 2 + 1]? = some (.int .i64 ((j : Int) % 64))) : Kd.C kInstr w (some ⟨g, 0, none⟩) n (overL n) := by
  have hl : (overL n).length = n := by simp [overL]
  have := C_instrs (l := overL n) h (by rw [hl]; exact hn) (fun j x hx => by
    obtain ⟨h1, h2⟩ := overL_get hx
    subst h2
    exact hc j h1)
  rwa [hl] at this
theorem own_cells {w : World} {ok : Nat → Prop} {A : Option Addr} {n c : Nat} {l : List Instr} (h : Kd.R kInstr 35 w 0 ok (.slice A n c) l) (h0 : 0 < l.length) : ∃ g cur, A = some ⟨g, 0, none⟩ ∧ n = l.length ∧ n ≤ c ∧ w.heap[g]? = some (.cells cur 35 (0, 0)) ∧ cur.size = c * 2 ∧ ok g := by
  obtain ⟨hok, inner, ho, _⟩ := h
  rcases ho.2 with ⟨_, hn⟩ | ⟨g, cap, cur, hv, _, hg, hnc, _, hcs, _⟩
  · omega
  · injection hv with h1 h2 h3
    subst h1 h2 h3
    exact ⟨g, cur, rfl, rfl, hnc, hg, hcs, hok g rfl⟩
theorem disj3 {a b c : Option Addr × Nat × Nat} {n1 n2 n3 n4 : Nat} (ha : ∀ k, (slv a).ownBlock = some k → n1 ≤ k ∧ k < n2) (hb : ∀ k, (slv b).ownBlock = some k → n2 ≤ k ∧ k < n3) (hc : ∀ k, (slv c).ownBlock = some k → n3 ≤ k ∧ k < n4) (h23 : n2 ≤ n3) : Disj [a, b, c] := by
  intro j k p q x hp hq hjk h1 h2
  match j, k, hp, hq, hjk with
  | 0, 0, _, _, h => exact absurd rfl h
  | 1, 1, _, _, h => exact absurd rfl h
  | 2, 2, _, _, h => exact absurd rfl h
  | 0, 1, hp, hq, _ => simp at hp hq; subst hp hq; have := ha x h1; have := hb x h2; omega
  | 1, 0, hp, hq, _ => simp at hp hq; subst hp hq; have := hb x h1; have := ha x h2; omega
  | 0, 2, hp, hq, _ => simp at hp hq; subst hp hq; have := ha x h1; have := hc x h2; omega
  | 2, 0, hp, hq, _ => simp at hp hq; subst hp hq; have := hc x h1; have := ha x h2; omega
  | 1, 2, hp, hq, _ => simp at hp hq; subst hp hq; have := hb x h1; have := hc x h2; omega
  | 2, 1, hp, hq, _ => simp at hp hq; subst hp hq; have := hc x h1; have := hb x h2; omega
theorem overL_all (n : Nat) : ∀ i ∈ overL n, -9223372036854775808 ≤ i.a ∧ i.a ≤ 9223372036854775807 := by
  intro i hi
  simp only [overL, List.mem_map] at hi
  obtain ⟨j, _, rfl⟩ := hi
  simp only
  omega
theorem R_lt {w : World} {ok : Nat → Prop} {v : Value} {l : List Int} (h : Kd.R (Kd.int .u8) 5 w 0 ok v l) {k : Nat} (hk : v.ownBlock = some k) : k < w.heap.size := ((Kd.R_bound h).1 k hk).2.2.1
theorem apart3 {W a1 a2 a4 a5 a6 : World} {A3 A4 A5 : Option Addr} {n3 n4 n5 c3 c4 c5 : Nat} {la lb lc : List Int} {t : TypeId}
    (ha : Kd.R (Kd.int .u8) 5 W 0 (New (fun _ => False) a1 a2) (.slice A3 n3 c3) la) (hb : Kd.R (Kd.int .u8) 5 W 0 (New (fun _ => False) a2 a4) (.slice A4 n4 c4) lb) (hc : Kd.R (Kd.int .u8) 5 W 0 (New (fun _ => False) a5 a6) (.slice A5 n5 c5) lc) (h23 : a1.heap.size ≤ a2.heap.size) (h24 : a2.heap.size ≤ a4.heap.size) (h45 : a4.heap.size ≤ a5.heap.size)
    (la1 : la.length ≤ 35184372088832) (lb1 : lb.length ≤ 35184372088832) (lc1 : lc.length ≤ 35184372088832) :
    Calls Try.prog 46 #[.slice (some ⟨W.heap.size, 0, none⟩) 3 3] (W.alloc (.cells #[.slice A3 n3 c3, .slice A4 n4 c4, .slice A5 n5 c5] t)) fun e w' => e = .returned (.bool true) ∧ Chg (fun b => a1.heap.size ≤ b) (W.alloc (.cells #[.slice A3 n3 c3, .slice A4 n4 c4, .slice A5 n5 c5] t)) w' := by
  have hal : Chg (fun _ => False) W (W.alloc (.cells #[.slice A3 n3 c3, .slice A4 n4 c4, .slice A5 n5 c5] t)) := (Chg.refl _ W).alloc _
  have fa : ∀ k, (slv (A3, n3, c3)).ownBlock = some k → a1.heap.size ≤ k ∧ k < a2.heap.size := fun k hk => (ha.1 k hk).elim False.elim id
  have fb : ∀ k, (slv (A4, n4, c4)).ownBlock = some k → a2.heap.size ≤ k ∧ k < a4.heap.size := fun k hk => (hb.1 k hk).elim False.elim id
  have fc : ∀ k, (slv (A5, n5, c5)).ownBlock = some k → a5.heap.size ≤ k ∧ k < a6.heap.size := fun k hk => (hc.1 k hk).elim False.elim id
  have ga := Kd.R_tight rfl ha
  have gb := Kd.R_tight rfl hb
  have gc := Kd.R_tight rfl hc
  have hin : ∀ {v : Value} {l : List Int}, Kd.R (Kd.int .u8) 5 W 0 (fun k => some k = v.ownBlock) v l → Kd.R (Kd.int .u8) 5 (W.alloc (.cells #[.slice A3 n3 c3, .slice A4 n4 c4, .slice A5 n5 c5] t)) 0 (fun k => some k = v.ownBlock) v l := fun h => R_chg h hal (fun _ _ _ h => h)
  have sa : ∀ k, (slv (A3, n3, c3)).ownBlock = some k → k < W.heap.size := fun k hk => R_lt ha hk
  have sb : ∀ k, (slv (A4, n4, c4)).ownBlock = some k → k < W.heap.size := fun k hk => R_lt hb hk
  have sc : ∀ k, (slv (A5, n5, c5)).ownBlock = some k → k < W.heap.size := fun k hk => R_lt hc hk
  have la2 : n3 = la.length := RowB.len (W := W) (p := (A3, n3, c3)) ga
  have lb2 : n4 = lb.length := RowB.len (W := W) (p := (A4, n4, c4)) gb
  have lc2 : n5 = lc.length := RowB.len (W := W) (p := (A5, n5, c5)) gc
  have hown : ∀ b, OwnS [(A3, n3, c3), (A4, n4, c4), (A5, n5, c5)] b → a1.heap.size ≤ b ∧ b < W.heap.size := by
    rintro b ⟨k, p, hp, hk⟩
    match k, hp with
    | 0, hp => simp at hp; subst hp; exact ⟨(fa b hk).1, sa b hk⟩
    | 1, hp => simp at hp; subst hp; exact ⟨Nat.le_trans h23 (fb b hk).1, sb b hk⟩
    | 2, hp => simp at hp; subst hp; exact ⟨Nat.le_trans (Nat.le_trans h23 h24) (Nat.le_trans h45 (fc b hk).1), sc b hk⟩
  refine (kit_Apart _ _ 3 3 W.heap.size [(A3, n3, c3), (A4, n4, c4), (A5, n5, c5)] rfl (by decide) (fun _ => rfl) (fun k p hp => ?_) (fun h => absurd (hown _ h).2 (Nat.lt_irrefl _)) (fun k p hp => ?_) (disj3 fa fb (fun k hk => ⟨Nat.le_trans h45 (fc k hk).1, (fc k hk).2⟩) h24)).mono ?_
  · rw [blk_cell (heap_alloc_new W _) k]
    match k, hp with
    | 0, hp => simp at hp; subst hp; rfl
    | 1, hp => simp at hp; subst hp; rfl
    | 2, hp => simp at hp; subst hp; rfl
  · match k, hp with
    | 0, hp => simp at hp; subst hp; exact ⟨by simp only; omega, _, hin ga⟩
    | 1, hp => simp at hp; subst hp; exact ⟨by simp only; omega, _, hin gb⟩
    | 2, hp => simp at hp; subst hp; exact ⟨by simp only; omega, _, hin gc⟩
  · rintro e w' ⟨he, hc2⟩
    exact ⟨he, hc2.mono (fun b _ hb => (hown b hb).1)⟩
theorem chgQ0 {w w' : World} (h : Drawn0 w w') : Chg (fun _ => False) w w' := chg_drawn0 h
theorem enc_all {w w1 w2 w3 w4 w6 w7 : World} (h1 : Chg (fun _ => False) w w1) (h2 : Chg (fun _ => False) w1 w2) (h3 : Chg (fun _ => False) w2 w3) (h4 : Chg (fun _ => False) w3 w4) (h6 : Chg (fun _ => False) w4 w6) (h7 : Chg (fun _ => False) w6 w7) : Chg (fun _ => False) w w7 :=
  ((((h1.trans h2 (fun _ _ h => h)).trans h3 (fun _ _ h => h)).trans h4 (fun _ _ h => h)).trans h6 (fun _ _ h => h)).trans h7 (fun _ _ h => h)
theorem over_step {wr : World} {gx k m : Nat} {cur : Array Value} {t : TypeId} (g1 : wr.heap[gx]? = some (.cells cur t (0, 0))) (g2 : cur.size = m * 2) (g3 : ∀ j, j < k → cur[j * 2]? = some (.int .i64 10) ∧ cur[j * 2 + 1]? = some (.int .i64 ((j : Int) % 64))) (hk : k < m) :
    (((wr.setCell ⟨gx, k * 2, none⟩ (.int .i64 10)).setCell ⟨gx, k * 2 + 1, none⟩ (.int .i64 ((k : Int) % 64))).heap[gx]? = some (.cells ((cur.setIfInBounds (k * 2) (.int .i64 10)).setIfInBounds (k * 2 + 1) (.int .i64 ((k : Int) % 64))) t (0, 0)) ∧ ((cur.setIfInBounds (k * 2) (.int .i64 10)).setIfInBounds (k * 2 + 1) (.int .i64 ((k : Int) % 64))).size = m * 2 ∧ ∀ j, j < k + 1 → ((cur.setIfInBounds (k * 2) (.int .i64 10)).setIfInBounds (k * 2 + 1) (.int .i64 ((k : Int) % 64)))[j * 2]? = some (.int .i64 10) ∧ ((cur.setIfInBounds (k * 2) (.int .i64 10)).setIfInBounds (k * 2 + 1) (.int .i64 ((k : Int) % 64)))[j * 2 + 1]? = some (.int .i64 ((j : Int) % 64))) := by
  refine ⟨blk_set (blk_set g1 _ _) _ _, by simpa using g2, fun j hj => ?_⟩
  rw [Array.getElem?_setIfInBounds, Array.getElem?_setIfInBounds, Array.getElem?_setIfInBounds, Array.getElem?_setIfInBounds]
  by_cases hjk : j = k
  · subst hjk
    rw [if_neg (by omega), if_pos rfl, if_pos rfl]
    simp
    omega
  · obtain ⟨h1, h2⟩ := g3 j (by omega)
    rw [if_neg (by omega), if_neg (by omega), if_neg (by omega), if_neg (by omega)]
    exact ⟨h1, h2⟩
set_option maxHeartbeats 4000000
theorem law_codeEncode (w : World) (A : Option Addr) (nn cap : Nat) (l : List Instr) (hC : Kd.C kInstr w A nn l) (hl : ∀ i ∈ l, -9223372036854775808 ≤ i.a ∧ i.a ≤ 9223372036854775807) (hn : l.length ≤ 8796093022000) :
    Calls Try.prog 10 #[.slice A nn cap] w fun e w' => e = .returned (.bool true) ∧ Below w.heap.size w w' := by
  have e0 := hC.1
  subst e0
  have hCA := Aside0.mk hC
  have hlA := Aside0.mk hl
  clear hC hl
  have hel := Aside0.mk (encP_length l)
  go_enter Try.func10, Try.ntmps10
  go_wp2_with (first | (go_at_call 42; go_must (refine (ref_Encode _ A l.length cap l hCA.out hlA.out (by omega)).mono ?_); go_must (rintro e w1 ⟨v1, rfl, hr1, hc1⟩); go_must (obtain ⟨A1, n1, cap1, rfl⟩ := R_sl hr1); go_must (replace hr1 := Aside0.mk hr1); go_must (replace hc1 := Aside0.mk hc1)) | (go_at_call 17; go_must (refine (lentInstrs _ A l.length cap l (C_chg hCA.out (hc1.out.below (fun _ _ h => h))) (by omega)).mono ?_); go_must (rintro e w2 ⟨v2, rfl, hr2, hc2⟩); go_must (obtain ⟨A2, n2, cap2, rfl⟩ := R_sl hr2); go_must (obtain ⟨gx, cur0, rfl, q2, hle2, hb2, hs2, hg2⟩ := own_cells hr2 (by simp [lentMarks])); go_must (rw [List.length_append, lentMarks_length] at q2); go_must (subst q2); go_must (have p2 := Aside0.mk (R_C hr2)); go_must (have i2 := Aside0.mk (by have := R_C (Kd.R_take hr2 (m := l.length) (by simp)); rw [List.take_left] at this; exact this)); go_must (have x2 := Aside0.mk (R_chg hr1.out hc2 (fun _ _ _ h => h))); go_must (clear hr2); go_must (have hle3 : l.length ≤ cap2 := by omega); go_must (replace hb2 := Aside0.mk hb2); go_must (replace hs2 := Aside0.mk hs2); go_must (replace hg2 := Aside0.mk hg2); go_must (replace hc2 := Aside0.mk hc2)) | (go_at_call 43; have z := i2; go_must (refine (code_Encode _ _ l.length cap2 l i2.out hlA.out (by omega)).mono ?_); go_must (rintro e w3 ⟨v3, rfl, hr3, hc3⟩); go_must (obtain ⟨A3, n3, cap3, rfl⟩ := R_sl hr3); go_must (have i3 := Aside0.mk (C_chg i2.out (hc3.below (fun _ _ h => h)))); go_must (have p3 := Aside0.mk (C_chg p2.out (hc3.below (fun _ _ h => h)))); go_must (have x3 := Aside0.mk (R_chg x2.out hc3 (fun _ _ _ h => h))); (have hb3 := Aside0.mk (hc3.blk hb2.out (fun h => h))); go_must (clear i2 p2 x2 hb2); go_must (replace hr3 := Aside0.mk hr3); go_must (replace hc3 := Aside0.mk hc3)) | (go_at_call 43; have z := i3; go_must (refine (code_Encode _ _ l.length cap2 l i3.out hlA.out (by omega)).mono ?_); go_must (rintro e w4 ⟨v4, rfl, hr4, hc4⟩); go_must (obtain ⟨A4, n4, cap4, rfl⟩ := R_sl hr4); go_must (have p4 := Aside0.mk (C_chg p3.out (hc4.below (fun _ _ h => h)))); go_must (have x4 := Aside0.mk (R_chg x3.out hc4 (fun _ _ _ h => h))); go_must (have o4 := Aside0.mk (R_chg hr3.out hc4 (fun _ _ _ h => h))); (have hb4 := Aside0.mk (hc4.blk hb3.out (fun h => h))); go_must (clear i3 p3 x3 hb3); go_must (replace hr4 := Aside0.mk hr4); go_must (replace hc4 := Aside0.mk hc4)) | (go_at_call 32; go_must (refine (enc_num _ _).mono ?_); go_must (rintro e w5 ⟨rfl, rfl⟩)) | (go_at_call_of 44 cap3; go_must (refine (same_bytes _ A3 A1 n3 n1 cap3 cap1 _ _ (R_C o4.out) (R_C x4.out)).mono ?_); go_must (rintro e w6 ⟨rfl, hd6⟩); go_must (have hc6 := chgQ0 hd6); go_must (rw [decide_eq_true (rfl : (encP l).1 = (encP l).1)]); go_must (have p6 := Aside0.mk (C_chg p4.out (hc6.below (fun _ _ h => h)))); go_must (have x6 := Aside0.mk (R_chg x4.out hc6 (fun _ _ _ h => h))); go_must (have o6 := Aside0.mk (R_chg o4.out hc6 (fun _ _ _ h => h))); go_must (have t6 := Aside0.mk (R_chg hr4.out hc6 (fun _ _ _ h => h))); (have hb6 := Aside0.mk (hc6.blk hb4.out (fun h => h))); go_must (clear hd6 hb4 p4); go_must (replace hc6 := Aside0.mk hc6)) | (go_at_call_of 44 cap4; go_must (refine (same_bytes _ A4 A1 n4 n1 cap4 cap1 _ _ (R_C t6.out) (R_C x6.out)).mono ?_); go_must (rintro e w7 ⟨rfl, hd7⟩); go_must (have hc7 := chgQ0 hd7); go_must (rw [decide_eq_true (rfl : (encP l).1 = (encP l).1)]); go_must (have p7 := Aside0.mk (C_chg p6.out (hc7.below (fun _ _ h => h)))); go_must (have o7 := Aside0.mk (R_chg o6.out hc7 (fun _ _ _ h => h))); go_must (have t7 := Aside0.mk (R_chg t6.out hc7 (fun _ _ _ h => h))); (have hb7 := Aside0.mk (hc7.blk hb6.out (fun h => h))); go_must (clear hd7 hb6 p6); go_must (replace hc7 := Aside0.mk hc7)) | (go_at_call 19; go_must (have hcA7 := enc_all hc1.out hc2.out hc3.out hc4.out hc6.out hc7.out); go_must (refine (keptInstrs _ _ A _ cap2 l.length cap l p7.out (C_chg hCA.out (hcA7.below (fun _ _ h => h))) (by omega)).mono ?_); go_must (rintro e w8 ⟨rfl, hc8⟩); go_must (have hc8b := Aside0.mk hc8); go_must (have o8 := Aside0.mk (R_chg o7.out hc8 (fun _ _ _ h => h))); go_must (have t8 := Aside0.mk (R_chg t7.out hc8 (fun _ _ _ h => h))); (have hb8 := Aside0.mk (hc8.blk hb7.out (fun h => h))); go_must (clear hb7 p7); go_must (have hc8 := Aside0.mk (hcA7.trans hc8 (fun _ _ h => h))); go_must (clear hcA7)))
  go_loopw [11] (fun i wr => ∃ (k : Nat) (cur : Array Value), i = .int .i64 k ∧ k ≤ l.length ∧ Aside0 (wr.heap[gx]? = some (.cells cur 35 (0, 0)) ∧ cur.size = cap2 * 2 ∧ ∀ j, j < k → cur[j * 2]? = some (.int .i64 10) ∧ cur[j * 2 + 1]? = some (.int .i64 ((j : Int) % 64))) ∧ Aside0 (Chg (fun b => b = gx) w8 wr)) (fun i _ => l.length - (intOf i).toNat)
  case atStart => exact ⟨0, cur0, rfl, by omega, ⟨hb8.out, hs2.out, fun j hj => by omega⟩, ⟨Chg.refl _ _⟩⟩
  case round =>
    obtain ⟨k, cur, rfl, hk, hX, hCh⟩ := hrel
    by_cases hlt : k < l.length
    · have hk0 : (0 : Int) ≤ k := by omega
      have hk1 : (k : Int) < l.length := by omega
      obtain ⟨g1, g2, g3⟩ := hX.out
      obtain ⟨u0, hu0⟩ : ∃ u, cur[k * 2]? = some u := ⟨_, Array.getElem?_eq_getElem (by omega)⟩
      obtain ⟨u1, hu1⟩ : ∃ u, cur[k * 2 + 1]? = some u := ⟨_, Array.getElem?_eq_getElem (by omega)⟩
      have y0 : wr.cell? ⟨gx, k * 2, none⟩ = some u0 := by rw [blk_cell g1 (k * 2)]; exact hu0
      have y1 : wr.cell? ⟨gx, k * 2 + 1, none⟩ = some u1 := by rw [blk_cell g1 (k * 2 + 1)]; exact hu1
      have z0 : wr.frozen? ⟨gx, k * 2, none⟩ = false := blk_frozen g1 _
      have z1 : wr.frozen? ⟨gx, k * 2 + 1, none⟩ = false := blk_frozen g1 _
      have hnew : Aside0 ((((wr.setCell ⟨gx, k * 2, none⟩ (.int .i64 10)).setCell ⟨gx, k * 2 + 1, none⟩ (.int .i64 ((k : Int) % 64))).heap[gx]? = some (.cells ((cur.setIfInBounds (k * 2) (.int .i64 10)).setIfInBounds (k * 2 + 1) (.int .i64 ((k : Int) % 64))) 35 (0, 0)) ∧ ((cur.setIfInBounds (k * 2) (.int .i64 10)).setIfInBounds (k * 2 + 1) (.int .i64 ((k : Int) % 64))).size = cap2 * 2 ∧ ∀ j, j < k + 1 → ((cur.setIfInBounds (k * 2) (.int .i64 10)).setIfInBounds (k * 2 + 1) (.int .i64 ((k : Int) % 64)))[j * 2]? = some (.int .i64 10) ∧ ((cur.setIfInBounds (k * 2) (.int .i64 10)).setIfInBounds (k * 2 + 1) (.int .i64 ((k : Int) % 64)))[j * 2 + 1]? = some (.int .i64 ((j : Int) % 64)))) := ⟨over_step g1 g2 g3 (by omega)⟩
      have hcn : Aside0 (Chg (fun b => b = gx) wr ((wr.setCell ⟨gx, k * 2, none⟩ (.int .i64 10)).setCell ⟨gx, k * 2 + 1, none⟩ (.int .i64 ((k : Int) % 64)))) := ⟨((Chg.refl (fun b => b = gx) wr).setCell (p := ⟨gx, k * 2, none⟩) (fun _ => rfl) _).setCell (p := ⟨gx, k * 2 + 1, none⟩) (fun _ => rfl) _⟩
      clear g1 g2 g3 hu0 hu1
      go_wp2
      go_roundw
      case measure => first | (simp [intOf]; done) | (simp [intOf]; omega)
      case rel => exact ⟨k + 1, _, by go_num, by omega, hnew, ⟨hCh.out.trans hcn.out (fun _ _ h => h)⟩⟩
    · obtain rfl : k = l.length := by omega
      have ov : (overL l.length).length = l.length := by simp [overL]
      have i9 := Aside0.mk (over_C hX.out.1 (by omega) hX.out.2.2)
      have ho9 : Aside0 (∀ i ∈ overL l.length, -9223372036854775808 ≤ i.a ∧ i.a ≤ 9223372036854775807) := ⟨overL_all _⟩
      have ol : Aside0 ((overL l.length).length ≤ 8796093022000) := ⟨by omega⟩
      have o9 := Aside0.mk (R_chg o8.out hCh.out (fun b _ hb e => by subst e; have h1 := hg2.out; simp only [New, false_or] at h1 hb; omega))
      have t9 := Aside0.mk (R_chg t8.out hCh.out (fun b _ hb e => by subst e; have h1 := hg2.out; have h3 := hc3.out.size; simp only [New, false_or] at h1 hb; omega))
      have hc9 : Aside0 (Chg (fun b => w.heap.size ≤ b) w wr) := ⟨(hc8.out.mono (fun _ _ h => h.elim)).trans hCh.out (fun b _ e => by subst e; have h1 := hg2.out; have h3 := hc1.out.size; simp only [New, false_or] at h1; omega)⟩
      have hel2 := Aside0.mk (encP_length (overL l.length))
      have z23 := Aside0.mk (⟨Nat.le_trans hc1.out.size hc2.out.size, hc3.out.size, hc4.out.size⟩ : w.heap.size ≤ w2.heap.size ∧ w2.heap.size ≤ w3.heap.size ∧ w3.heap.size ≤ w4.heap.size)
      have hsz : w4.heap.size ≤ wr.heap.size := by have h6 := hc6.out.size; have h7 := hc7.out.size; have h8 := hc8b.out.size; have := hCh.out.size; omega
      replace ov := Aside0.mk ov
      replace hsz := Aside0.mk hsz
      clear hX hCh hb8 hg2 hs2 o8 t8 hc1 hc2 hc3 hc4 hc6 hc7 hc8 hc8b
      go_wp2_with (first | (go_at_call 45; go_must (refine (copyInstrs _ (some ⟨gx, 0, none⟩) l.length cap2 (overL l.length) i9.out (by have := ol.out; omega)).mono ?_); go_must (rintro e wa ⟨va, rfl, hra, hca⟩); go_must (obtain ⟨Aa, na, capa, rfl⟩ := R_sl hra); go_must (have oa := Aside0.mk (R_chg o9.out hca (fun _ _ _ h => h))); go_must (have ta := Aside0.mk (R_chg t9.out hca (fun _ _ _ h => h))); go_must (have ia := Aside0.mk (C_chg i9.out (hca.below (fun _ _ h => h)))); go_must (have pa := Aside0.mk (R_C hra)); go_must (have cca := Aside0.mk (hc9.out.trans hca (fun _ _ h => h.elim))); go_must (have sza := Aside0.mk (Nat.le_trans hsz.out hca.size)); go_must (clear i9 o9 t9 hra hca hc9 hsz)) | (go_at_call 42; go_must (refine (ref_Encode _ Aa na capa (overL l.length) pa.out ho9.out (by have := ol.out; omega)).mono ?_); go_must (rintro e wb ⟨vb, rfl, hrb, hcb⟩); go_must (obtain ⟨Ab, nb, capb, rfl⟩ := R_sl hrb); go_must (have ob := Aside0.mk (R_chg oa.out hcb (fun _ _ _ h => h))); go_must (have tb := Aside0.mk (R_chg ta.out hcb (fun _ _ _ h => h))); go_must (have ib := Aside0.mk (C_chg ia.out (hcb.below (fun _ _ h => h)))); go_must (have ccb := Aside0.mk (cca.out.trans hcb (fun _ _ h => h.elim))); go_must (have szb := Aside0.mk (Nat.le_trans sza.out hcb.size)); go_must (replace hrb := Aside0.mk hrb); go_must (clear ia oa ta hcb cca sza pa)) | (go_at_call 43; go_must (refine (code_Encode _ (some ⟨gx, 0, none⟩) l.length cap2 (overL l.length) ib.out ho9.out (by have := ol.out; omega)).mono ?_); go_must (rintro e wc ⟨vc, rfl, hrc, hcc⟩); go_must (obtain ⟨A5, n5, cap5, rfl⟩ := R_sl hrc); go_must (have oc := Aside0.mk (R_chg ob.out hcc (fun _ _ _ h => h))); go_must (have tc := Aside0.mk (R_chg tb.out hcc (fun _ _ _ h => h))); go_must (have xc := Aside0.mk (R_chg hrb.out hcc (fun _ _ _ h => h))); go_must (have ccc := Aside0.mk (ccb.out.trans hcc (fun _ _ h => h.elim))); go_must (replace hrc := Aside0.mk hrc); go_must (clear ib ob tb hcc ccb hrb)) | (go_at_call 32; go_must (refine (enc_num _ _).mono ?_); go_must (rintro e w5 ⟨rfl, rfl⟩)) | (go_at_call 44; go_must (refine (same_bytes _ A5 Ab n5 nb cap5 capb _ _ (R_C hrc.out) (R_C xc.out)).mono ?_); go_must (rintro e wd ⟨rfl, hdd⟩); go_must (have hcd := chgQ0 hdd); go_must (rw [decide_eq_true (rfl : (encP (overL l.length)).1 = (encP (overL l.length)).1)]); go_must (have od := Aside0.mk (R_chg oc.out hcd (fun _ _ _ h => h))); go_must (have td := Aside0.mk (R_chg tc.out hcd (fun _ _ _ h => h))); go_must (have vd := Aside0.mk (R_chg hrc.out hcd (fun _ _ _ h => h))); go_must (have ccd := Aside0.mk (ccc.out.trans hcd (fun _ _ h => h.elim))); go_must (clear hdd hcd hrc oc tc xc ccc)) | (go_at_call 46; go_must (refine (apart3 od.out td.out vd.out z23.out.2.1 z23.out.2.2 szb.out (by have := hel.out; omega) (by have := hel.out; omega) (by have := hel2.out; omega)).mono ?_); go_must (rintro e wf ⟨rfl, hcf⟩); go_must (have ccf := Aside0.mk (((ccd.out.alloc _).trans hcf (fun b _ h => Nat.le_trans z23.out.1 h)).below (fun b hb h => by omega))); go_must (clear hcf)))
      go_ret
      exact ⟨rfl, ccf.out⟩

end Go.Proofs.Ythmghcjkmmhgnaa.K
