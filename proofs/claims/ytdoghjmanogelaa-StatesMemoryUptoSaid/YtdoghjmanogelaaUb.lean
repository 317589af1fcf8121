import Derived.Test.YtdoghjmanogelaaUa
import Derived.Test.YtdoghjmanogelaaTg
import Derived.IntWalk
import Derived.BigQuiet
import Derived.Deep.RegionHeld3
import Derived.Maps.OwnSet
namespace Go.Proofs.Ytdoghjmanogelaa.K
open Go.Maps Go.RowKit Go.Proofs.YtdoghjmanogelaaW.PrintWords Go.Proofs.YtdoghjmanogelaaW.PrintLast Go.Proofs.YtdoghjmanogelaaW.PrintMore
set_option linter.unusedVariables false
set_option linter.unusedSimpArgs false
set_option maxRecDepth 100000
theorem zero64 (w : World) : (zeroValue 2).run Try.prog w = .ok (.int .i64 0) w := by kernel_rfl
def TxPost (w : World) (lo : Nat) (gs go gk mt ct mo co gw gf : Nat) (tA oA bA : Option Addr) (tc oc bc : Nat) (s : QS) (r : Int × Bk) (v2 v3 vw : SV) (e : Ending) (w' : World) : Prop := ∃ v1 : SV, e = .returned (.int .i64 r.1) ∧ PBk w' lo gs go gk mt ct mo co gw gf tA oA bA tc oc bc s r.2 v1 v2 v3 vw ∧ Turn2 w w' lo go vw vw
theorem wf64 {x : Int} (h0 : -9223372036854775808 ≤ x) (h1 : x ≤ 9223372036854775807) : (Lit.int .i64 x).wf = true := WalkArith.wf_i64 (by omega)
set_option maxHeartbeats 4000000
theorem text_out (w : World) (lo : Nat) (gs go gk mt ct mo co gw gf : Nat) (tA oA bA : Option Addr) (tc oc bc : Nat) (s : QS) (b : Bk) (v1 v2 v3 vw : SV) (n : Int) (h : PBk w lo gs go gk mt ct mo co gw gf tA oA bA tc oc bc s b v1 v2 v3 vw) (hno : ¬ (0 ≤ n ∧ n < s.texts.length)) :
    Calls Try.prog 58 #[.int .i64 n, .pointer (some ⟨gs, 0, none⟩), .pointer (some ⟨ct, 0, none⟩), .pointer (some ⟨go, 0, none⟩)] w (TxPost w lo gs go gk mt ct mo co gw gf tA oA bA tc oc bc s (numT s b n) v2 v3 vw) := by
  have hE : Aside0 (numT s b n = (n, b)) := ⟨by unfold numT; rw [if_neg hno]⟩
  have hB := Aside0.mk h
  have p0 : w.cell? ⟨gs, 0, none⟩ = some (.slice tA s.texts.length tc) := blk_cell h.qs 0
  clear h
  by_cases hn : n < 0
  · clear hno
    go_enter Try.func58, Try.ntmps58
    go_wp2
    go_ret
    exact ⟨v1, by first | (rw [hE.out]; done) | (rw [hE.out]; rfl), by rw [hE.out]; exact hB.out, Turn2.refl _ _ _ _⟩
  · have hn2 : ¬ (n < s.texts.length) := by omega
    clear hno
    go_enter Try.func58, Try.ntmps58
    go_wp2
    go_ret
    exact ⟨v1, by first | (rw [hE.out]; done) | (rw [hE.out]; rfl), by rw [hE.out]; exact hB.out, Turn2.refl _ _ _ _⟩
theorem text_old (w : World) (lo : Nat) (gs go gk mt ct mo co gw gf : Nat) (tA oA bA : Option Addr) (tc oc bc : Nat) (s : QS) (b : Bk) (v1 v2 v3 vw : SV) (k : Nat) (h : PBk w lo gs go gk mt ct mo co gw gf tA oA bA tc oc bc s b v1 v2 v3 vw) (hok : BkOk s b) (hn : s.texts.length ≤ 1048576) (hk : k < s.texts.length) (hmem : k ∈ b.ts) :
    Calls Try.prog 58 #[.int .i64 (k : Int), .pointer (some ⟨gs, 0, none⟩), .pointer (some ⟨ct, 0, none⟩), .pointer (some ⟨go, 0, none⟩)] w (TxPost w lo gs go gk mt ct mo co gw gf tA oA bA tc oc bc s (numT s b k) v2 v3 vw) := by
  have hin : (0 : Int) ≤ k ∧ (k : Int) < s.texts.length := by omega
  have hE : Aside0 (numT s b k = ((b.ts.idxOf k : Int), b)) := ⟨by unfold numT metN; rw [if_pos hin, Int.toNat_natCast, if_pos hmem]⟩
  have hB := Aside0.mk h
  have p0 : w.cell? ⟨gs, 0, none⟩ = some (.slice tA s.texts.length tc) := blk_cell h.qs 0
  have pc : w.cell? ⟨ct, 0, none⟩ = some (.map (some mt)) := blk_cell h.qct 0
  have hhas : Aside0 (Maps.has (mapD b.ts) (.int .i64 (k : Int)) = true) := ⟨by rw [mapD_has, decide_eq_true hmem]⟩
  have hatA := Aside0.mk (mapD_at hok.nt hmem (.lit (.int .i64 0)))
  have hwf : Aside0 ((Lit.int .i64 (k : Int)).wf = true) := ⟨wf64 (by omega) (by omega)⟩
  obtain ⟨hk0, hk1⟩ := hin
  have hk2 : ¬ ((k : Int) < 0) := by omega
  clear h hmem hk
  go_enter Try.func58, Try.ntmps58
  go_wp2_with ((at_lookup; go_must (refine wpList_lookup_own_ok_int (H := Unit) _ rfl _ _ 115 rfl 2 2 .i64 (int_keyed Try.underlying2) Try.underlying115 Try.underlying2 (zero64 _) mt b.ts.length (mapD b.ts) rfl hB.out.qmt _ (.int .i64 k) rfl (keyOf_int_mk Try.underlying2 hwf.out) ?_); go_must (intro c hat hwc); go_must (rw [hhas.out]); go_must (clear hwc); go_must ((obtain rfl : c = (b.ts.idxOf k : Int) := by rw [hatA.out] at hat; injection hat with hat; injection hat with _ hat; exact hat.symm)); go_must (clear hat)))
  go_ret
  exact ⟨v1, by first | (rw [hE.out]; done) | (rw [hE.out]; rfl), by rw [hE.out]; exact hB.out, Turn2.refl _ _ _ _⟩
theorem text_new (w : World) (lo : Nat) (gs go gk mt ct mo co gw gf : Nat) (tA oA bA : Option Addr) (tc oc bc : Nat) (s : QS) (b : Bk) (v1 v2 v3 vw : SV) (w0 : World) (ros : List RO) (rbs : List RB) (L : List (List RF)) (k : Nat) (h : PBk w lo gs go gk mt ct mo co gw gf tA oA bA tc oc bc s b v1 v2 v3 vw) (hok : BkOk s b) (hV : SView w0 tA oA bA s ros rbs L) (hlo : lo = w0.heap.size) (h0 : Chg (fun _ => False) w0 w) (hn : s.texts.length ≤ 1048576) (hk : k < s.texts.length) (hmem : k ∉ b.ts) :
    Calls Try.prog 58 #[.int .i64 (k : Int), .pointer (some ⟨gs, 0, none⟩), .pointer (some ⟨ct, 0, none⟩), .pointer (some ⟨go, 0, none⟩)] w (TxPost w lo gs go gk mt ct mo co gw gf tA oA bA tc oc bc s (numT s b k) v2 v3 vw) := by
  subst hlo
  have hin : (0 : Int) ≤ k ∧ (k : Int) < s.texts.length := by omega
  have hE : Aside0 (numT s b k = ((b.ts.length : Int), ⟨b.ts ++ [k], b.os⟩)) := ⟨by unfold numT metN; rw [if_pos hin, Int.toNat_natCast, if_neg hmem]⟩
  have hB := Aside0.mk h
  have p0 : w.cell? ⟨gs, 0, none⟩ = some (.slice tA s.texts.length tc) := blk_cell h.qs 0
  have pc : w.cell? ⟨ct, 0, none⟩ = some (.map (some mt)) := blk_cell h.qct 0
  have hhas : Aside0 (Maps.has (mapD b.ts) (.int .i64 (k : Int)) = false) := ⟨by rw [mapD_has, decide_eq_false hmem]⟩
  have hsz : Aside0 (Maps.size (mapD b.ts) = b.ts.length) := ⟨mapD_size hok.nt⟩
  have htl : b.ts.length ≤ 1048576 := Nat.le_trans (nodup_lt hok.nt hok.lt) hn
  have hwf : Aside0 ((Lit.int .i64 (k : Int)).wf = true) := ⟨wf64 (by omega) (by omega)⟩
  have hwv : Aside0 ((Lit.int .i64 (b.ts.length : Int)).wf = true) := ⟨wf64 (by omega) (by omega)⟩
  have hmax : Aside0 (b.ts.length < maxLen) := ⟨by unfold maxLen; omega⟩
  have h0A := Aside0.mk h0
  obtain ⟨td, tx, e1, e2, x0w⟩ := str_at hV.ts k hk
  subst e1
  have hT1 : Aside0 (textsQ s (b.ts ++ [k]) = textsQ s b.ts ++ [tx]) := ⟨by
    unfold textsQ
    rw [List.map_append]
    simp [List.getD, e2]⟩
  have x0W := Aside0.mk x0w
  have hVA := Aside0.mk hV
  obtain ⟨hk0, hk1⟩ := hin
  have hk2 : ¬ ((k : Int) < 0) := by omega
  clear h hmem hV e2 x0w h0
  go_enter Try.func58, Try.ntmps58
  go_upto_region 7 with (first | (at_lookup; go_must (refine wpList_lookup_own_ok_int (H := Unit) _ rfl _ _ 115 rfl 2 2 .i64 (int_keyed Try.underlying2) Try.underlying115 Try.underlying2 (zero64 _) mt b.ts.length (mapD b.ts) rfl hB.out.qmt _ (.int .i64 k) rfl (keyOf_int_mk Try.underlying2 hwf.out) ?_); go_must (intro c hat hwc); go_must (rw [hhas.out]); go_must (clear hwc); go_must (clear hat)) | (at_len; (refine wpList_len_own (H := Unit) _ rfl _ 115 rfl 2 2 Try.underlying115 (plainElem Try.prog 2) mt b.ts.length (mapD b.ts) rfl hB.out.qmt ?_); go_must (rw [hsz.out])) | (at_mapUpdate; go_must (refine wpList_mapUpdate_own (H := Unit) _ rfl _ _ _ 115 rfl 2 2 (int_keyed Try.underlying2) Try.underlying115 (plainElem Try.prog 2) mt b.ts.length (mapD b.ts) rfl hB.out.qmt hmax.out _ _ (.int .i64 k) rfl rfl (keyOf_int_mk Try.underlying2 hwf.out) (.lit (.int .i64 (b.ts.length : Int))) [] (plainElem_int Try.underlying2 hwv.out) ?_); go_must (intro w1 hown1 hgrow1); ))
  (try simp only [Act.put, List.setIfInBounds_toArray, List.set_cons_zero, List.set_cons_succ])
  have hs1 : Chg (fun j => j = mt) w w1 := (Chg.refl (fun j => j = mt) w).grown hgrow1 (fun j _ e => (Option.some.inj e).symm)
  have hgs := Aside0.mk (hs1.blk hB.out.qs (hB.out.qmt.ne hB.out.qs))
  have hgo := Aside0.mk (hs1.blk hB.out.qo (hB.out.qmt.ne hB.out.qo))
  have hown := fun {α : Type} {kd : Kd α} {e : TypeId} {v : SV} {xs : List α} (ho : Ow kd e w w0.heap.size v xs) => ho.chg hs1 (fun j h1 h2 => by
    obtain ⟨cu, ec⟩ := Kd.R_typed ho.1 j h1
    exact hB.out.qmt.ne ec h2)
  have hrt := Aside0.mk (hown hB.out.rt)
  have hrk := Aside0.mk (hown hB.out.rk)
  have hC1 : Aside0 (Chg (fun _ => False) w0 w1) := ⟨h0A.out.trans hs1 (fun b hb h => by have := hB.out.lg.2.1; omega)⟩
  have x0 := cell_chg0 x0W.out hC1.out
  obtain ⟨v1A, v1N, v1C⟩ := v1
  clear p0 pc hown
  have p0 : w1.cell? ⟨gs, 0, none⟩ = some (.slice (some td) s.texts.length tc) := blk_cell hgs.out 0
  have x1 : w1.cell? ⟨go, 0, none⟩ = some (.slice v1A v1N v1C) := blk_cell hgo.out 0
  have hno4 : Aside0 (¬ (svl (v1A, v1N, v1C)).ownBlock = some (td.add k).block) := ⟨fun e => by
    have h1 := World.block_lt_of_cell? w0 _ x0W.out
    have h2 := hrt.out.2 _ e
    omega⟩
  have hRd := own_new hrt.out.1
  have hCd : Aside0 (Chg (fun j => (svl (v1A, v1N, v1C)).ownBlock = some j) w1 w1.drew) := ⟨(Chg.refl _ _).drew⟩
  have hl : Aside0 (((textsQ s b.ts).length + 1) * 16 ≤ 140737488355328) := ⟨by unfold textsQ; rw [List.length_map]; omega⟩
  refine start_ (n := 11) (S := fun w' => w'.cell? ⟨go, 0, none⟩ = some (.slice v1A v1N v1C) ∧ w'.cell? ⟨gs, 0, none⟩ = some (.slice (some td) s.texts.length tc) ∧ w'.cell? (td.add k) = some (.string tx)) (ds := [10]) #[false, false, false, false, false, false, false, false, false, false, false] (by kernel_rfl) rfl rfl ⟨x1, p0, x0⟩ (fun hHeld => ?_)
  refine pure_ (i := 0) (N := some 31) (v := ?_) (a' := ?_) #[true, false, false, false, false, false, false, false, false, false, false] rfl rfl (by kernel_rfl) (fun _ _ _ h => h) (Or.inl ⟨by rfl, ?_⟩) ?_ ?_
  rotate_left
  · intro w'
    go_simp
    with_reducible rfl
  rotate_left
  · simp only [Act.put, List.setIfInBounds_toArray, List.set_cons_zero, List.set_cons_succ, i64_w, i32_w]
    rfl
  refine pure_ (i := 2) (N := some 33) (v := ?_) (a' := ?_) #[true, false, true, false, false, false, false, false, false, false, false] rfl rfl (by kernel_rfl) (fun _ _ _ h => h) (Or.inl ⟨by rfl, ?_⟩) ?_ ?_
  rotate_left
  · intro w'
    go_simp
    with_reducible rfl
  rotate_left
  · simp only [Act.put, List.setIfInBounds_toArray, List.set_cons_zero, List.set_cons_succ, i64_w, i32_w]
    rfl
  refine pure_ (i := 4) (N := some 35) (v := ?_) (a' := ?_) #[true, false, true, false, true, false, false, false, false, false, false] rfl rfl (by kernel_rfl) (fun _ _ _ h => h) (Or.inl ⟨by rfl, ?_⟩) ?_ ?_
  rotate_left
  · intro w'
    go_simp
    with_reducible rfl
  rotate_left
  · simp only [Act.put, List.setIfInBounds_toArray, List.set_cons_zero, List.set_cons_succ, i64_w, i32_w]
    rfl
  refine take_ (i := 1) (N := some 32) (v := ?_) (a' := ?_) #[true, true, true, false, true, false, false, false, false, false, false] rfl rfl (by kernel_rfl) (fun _ _ _ h => h) (Or.inl ⟨by rfl, ?_⟩) hHeld ?_ ?_
  rotate_left
  · rintro w' ⟨s0, s1, s2⟩
    go_simp
    with_reducible rfl
  rotate_left
  · simp only [Act.put, List.setIfInBounds_toArray, List.set_cons_zero, List.set_cons_succ, i64_w, i32_w]
    rfl
  refine take_ (i := 3) (N := some 34) (v := ?_) (a' := ?_) #[true, true, true, true, true, false, false, false, false, false, false] rfl rfl (by kernel_rfl) (fun _ _ _ h => h) (Or.inl ⟨by rfl, ?_⟩) hHeld ?_ ?_
  rotate_left
  · rintro w' ⟨s0, s1, s2⟩
    go_simp
    with_reducible rfl
  rotate_left
  · simp only [Act.put, List.setIfInBounds_toArray, List.set_cons_zero, List.set_cons_succ, i64_w, i32_w]
    rfl
  refine pure_ (i := 5) (N := some 36) (v := ?_) (a' := ?_) #[true, true, true, true, true, true, false, false, false, false, false] rfl rfl (by kernel_rfl) (fun _ _ _ h => h) (Or.inl ⟨by rfl, ?_⟩) ?_ ?_
  rotate_left
  · intro w'
    go_simp
    with_reducible rfl
  rotate_left
  · simp only [Act.put, List.setIfInBounds_toArray, List.set_cons_zero, List.set_cons_succ, i64_w, i32_w]
    rfl
  refine take_ (i := 6) (N := some 37) (v := ?_) (a' := ?_) #[true, true, true, true, true, true, true, false, false, false, false] rfl rfl (by kernel_rfl) (fun _ _ _ h => h) (Or.inl ⟨by rfl, ?_⟩) hHeld ?_ ?_
  rotate_left
  · rintro w' ⟨s0, s1, s2⟩
    go_simp
    with_reducible rfl
  rotate_left
  · simp only [Act.put, List.setIfInBounds_toArray, List.set_cons_zero, List.set_cons_succ, i64_w, i32_w]
    rfl
  refine one_ (i := 7) (N := some 38) #[true, true, true, true, true, true, true, true, false, false, false] rfl rfl (by kernel_rfl) (by decide) (fun K hK => ?_)
  refine value_ (w1 := ?_) (v := ?_) (by rfl) rfl ?_ ?_
  rotate_left 2
  · go_simp
    constructor
    · rfl
    · rfl
  refine hK.out _ _ ⟨(cellQ hHeld.1 _), (cellQ hHeld.2.1 _), (cellQ hHeld.2.2 _)⟩ (fun hHeld => ?_)
  clear hK K
  refine norm_ (a' := ?_) ?_ ?_
  rotate_left
  · show Act.put _ (some 38) _ = _
    simp only [Act.put, List.setIfInBounds_toArray, List.set_cons_zero, List.set_cons_succ, i64_w, i32_w]
    rfl
  refine one_ (i := 8) (N := some 39) #[true, true, true, true, true, true, true, true, true, false, false] rfl rfl (by kernel_rfl) (by decide) (fun K hK => ?_)
  refine app1T Kd.string (by rfl) (.tmp 32) (.tmp 38) (by rfl) Try.underlying36 infoStr rfl (by decide) (by decide) tx (by rfl) (by rfl) rfl hRd hCd hl ?_
  intro v1 w3 hr3 hc3
  obtain ⟨zA, zN, zC, rfl⟩ := R_sl hr3.out
  have hX3 := Aside0.mk (hc3.out.blk hgo.out (fun e => ow_blk_ne hrt.out hgo.out (by decide) e))
  have x1z := blk_cell hX3.out 0
  have fz := blk_frozen hX3.out 0
  refine hK.out _ _ ⟨x1z, (cell_keepQ hc3.out (fun e => ow_blk_ne hrt.out hgs.out (by decide) e) p0), (cell_keepQ hc3.out (fun e => hno4.out e) x0)⟩ (fun hHeld => ?_)
  clear hK K
  refine norm_ (a' := ?_) ?_ ?_
  rotate_left
  · show Act.put _ (some 39) _ = _
    simp only [Act.put, List.setIfInBounds_toArray, List.set_cons_zero, List.set_cons_succ, i64_w, i32_w]
    rfl
  refine pure_ (i := 9) (N := some 40) (v := ?_) (a' := ?_) #[true, true, true, true, true, true, true, true, true, true, false] rfl rfl (by kernel_rfl) (fun _ _ _ h => h) (Or.inl ⟨by rfl, ?_⟩) ?_ ?_
  rotate_left
  · intro w'
    go_simp
    with_reducible rfl
  rotate_left
  · simp only [Act.put, List.setIfInBounds_toArray, List.set_cons_zero, List.set_cons_succ, i64_w, i32_w]
    rfl
  refine last_ (i := 10) (N := none) #[true, true, true, true, true, true, true, true, true, true, true] rfl rfl (by kernel_rfl) (by decide) (fun K hK => ?_)
  refine skip_ (w1 := ?_) (by rfl) rfl ?_ ?_
  rotate_left
  · go_simp
    rfl
  refine hK.out _ _ ?_
  clear hK K
  refine done_ (by kernel_rfl) ?_
  have hs3 : Chg (fun j => j = go) w3 (w3.setCell ⟨go, 0, none⟩ (.slice zA zN zC)) := chg_set _ _ _ _
  have hgo3 := blk_set hX3.out 0 (.slice zA zN zC)
  have hkeep : ∀ {cs : Array Value} {t : TypeId} {g : Nat}, w.heap[g]? = some (.cells cs t (0, 0)) → t ≠ 9 → g ≠ go → (w3.setCell ⟨go, 0, none⟩ (.slice zA zN zC)).heap[g]? = some (.cells cs t (0, 0)) := fun hb ht hg => blk_setne (hc3.out.blk (hs1.blk hb (hB.out.qmt.ne hb)) (fun e => ow_blk_ne hrt.out (hs1.blk hb (hB.out.qmt.ne hb)) (fun e => ht e.symm) e)) hg
  have hgoT : ∀ {cs : Array Value} {t : TypeId} {g : Nat}, w.heap[g]? = some (.cells cs t (0, 0)) → t ≠ 40 → g ≠ go := fun hb ht e => ht (cells_t hB.out.qo (e ▸ hb))
  have hmp : ∀ {m : Nat} {l : List Nat}, MapN w1 m l → MapN (w3.setCell ⟨go, 0, none⟩ (.slice zA zN zC)) m l := fun hm => (hm.chg hc3.out (fun e => by
    obtain ⟨cu, ec⟩ := Kd.R_typed hrt.out.1 _ e
    exact hm.ne ec rfl)).chg hs3 (fun e => by subst e; exact hm.ne hgo.out rfl)
  have hmt1 : MapN w1 mt (b.ts ++ [k]) := by
    unfold MapN
    rw [mapD_snoc, hsz.out, List.length_append]
    exact hown1
  have hrt4 := ow_set (i := 0) (u := .slice zA zN zC) (Ow.app (v1 := (zA, zN, zC)) rfl hrt.out hr3.out hC1.out.size) hX3.out (by decide)
  rw [← hT1.out] at hrt4
  have hrk3 := hrk.out.chg hc3.out (fun j h1 h2 => Ow.ne hrk.out hrt.out (by decide) j h1 h2)
  have hrk4 := ow_set (i := 0) (u := .slice zA zN zC) hrk3 hX3.out (by decide)
  have hBf : Aside0 (PBk _ w0.heap.size gs go gk mt ct mo co gw gf (some td) oA bA tc oc bc s ⟨b.ts ++ [k], b.os⟩ (zA, zN, zC) v2 v3 vw) := ⟨⟨hkeep hB.out.qs (by decide) hB.out.so, hgo3, hkeep hB.out.qk (by decide) (hgoT hB.out.qk (by decide)), hkeep hB.out.qct (by decide) (hgoT hB.out.qct (by decide)), hkeep hB.out.qco (by decide) (hgoT hB.out.qco (by decide)), hkeep hB.out.qgw (by decide) (hgoT hB.out.qgw (by decide)), hkeep hB.out.qf (by decide) (hgoT hB.out.qf (by decide)), hmp hmt1, hmp (hB.out.qmo.chg hs1 (fun e => hB.out.mm e.symm)), hrt4, hrk4, hB.out.mm, hB.out.so, hB.out.lg⟩⟩
  have hTf : Aside0 (Turn2 w (w3.setCell ⟨go, 0, none⟩ (.slice zA zN zC)) w0.heap.size go vw vw) := ⟨⟨fun j => (j = mt ∨ (svl (v1A, v1N, v1C)).ownBlock = some j) ∨ j = go, ((hs1.mono (fun _ _ h => Or.inl (Or.inl h))).trans hc3.out (fun _ _ h => Or.inl (Or.inr h))).trans hs3 (fun _ _ h => Or.inr h), fun j hj => by
    rcases hj with (h1 | h1) | h1
    · rw [h1]; exact hB.out.lg.2.1
    · exact hrt.out.2 j h1
    · rw [h1]; exact hB.out.lg.1, fun j cs t hj hc => by
    rcases hj with (h1 | h1) | h1
    · exact absurd h1 (hB.out.qmt.ne hc)
    · exact Or.inr (Or.inl (by rw [own_type hB.out.rt h1 hc]; decide))
    · exact Or.inl h1, fun j hj => Or.inl hj⟩⟩
  clear hs3 hgo3 hkeep hgoT hmp hmt1 hrt4 hrk3 hrk4 hs1
  go_wp2
  go_ret
  exact ⟨(zA, zN, zC), by first | (rw [hE.out]; done) | (rw [hE.out]; rfl), by rw [hE.out]; exact hBf.out, hTf.out⟩
theorem text_fn (w0 w : World) (gs go gk mt ct mo co gw gf : Nat) (tA oA bA : Option Addr) (tc oc bc : Nat) (s : QS) (b : Bk) (v1 v2 v3 vw : SV) (ros : List RO) (rbs : List RB) (L : List (List RF)) (n : Int) (h : PBk w w0.heap.size gs go gk mt ct mo co gw gf tA oA bA tc oc bc s b v1 v2 v3 vw) (hok : BkOk s b) (hV : SView w0 tA oA bA s ros rbs L) (h0 : Chg (fun _ => False) w0 w) (hn : s.texts.length ≤ 1048576) :
    Calls Try.prog 58 #[.int .i64 n, .pointer (some ⟨gs, 0, none⟩), .pointer (some ⟨ct, 0, none⟩), .pointer (some ⟨go, 0, none⟩)] w (TxPost w w0.heap.size gs go gk mt ct mo co gw gf tA oA bA tc oc bc s (numT s b n) v2 v3 vw) := by
  by_cases hin : 0 ≤ n ∧ n < s.texts.length
  · obtain ⟨k, rfl⟩ : ∃ k : Nat, n = k := ⟨n.toNat, by omega⟩
    by_cases hm : k ∈ b.ts
    · exact text_old w w0.heap.size gs go gk mt ct mo co gw gf tA oA bA tc oc bc s b v1 v2 v3 vw k h hok hn (by omega) hm
    · exact text_new w w0.heap.size gs go gk mt ct mo co gw gf tA oA bA tc oc bc s b v1 v2 v3 vw w0 ros rbs L k h hok hV rfl h0 hn (by omega) hm
  · exact text_out w w0.heap.size gs go gk mt ct mo co gw gf tA oA bA tc oc bc s b v1 v2 v3 vw n h hin
theorem PBk.blk {w w' : World} {lo lo' gs go gk mt ct mo co gw gf g : Nat} {tA oA bA : Option Addr} {tc oc bc : Nat} {s : QS} {b : Bk} {v1 v2 v3 vw vw' : SV} {cs : Array Value} {t : TypeId} (h : PBk w lo gs go gk mt ct mo co gw gf tA oA bA tc oc bc s b v1 v2 v3 vw) (ht : Turn2 w w' lo' go vw vw') (hb : w.heap[g]? = some (.cells cs t (0, 0))) (hd : t ∉ [40, 101, 115, 57, 117, 9, 2]) : w'.heap[g]? = some (.cells cs t (0, 0)) :=
  ht.blk hb (fun hm => hd ((List.mem_cons.1 hm).elim (fun e => by subst e; decide) (fun e => by rw [List.mem_singleton.1 e]; decide))) (fun e => hd (h.typ (by simp [Parts, e]) hb)) (fun e => hd (h.typ (by simp [Parts, e]) hb))
end Go.Proofs.Ytdoghjmanogelaa.K
