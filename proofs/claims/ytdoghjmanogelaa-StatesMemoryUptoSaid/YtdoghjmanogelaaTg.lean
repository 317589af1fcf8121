import Derived.Test.YtdoghjmanogelaaTf
import Derived.Test.YtdoghjmanogelaaZb
import Derived.IntWalk
import Derived.BigQuiet
import Derived.Deep.RegionHeld3
namespace Go.Proofs.Ytdoghjmanogelaa.K
open Go.RowKit Go.Proofs.YtdoghjmanogelaaW.PrintWords Go.Proofs.YtdoghjmanogelaaW.PrintLast Go.Proofs.YtdoghjmanogelaaW.PrintMore
set_option linter.unusedVariables false
set_option linter.unusedSimpArgs false
set_option maxRecDepth 100000
theorem book_object (w0 w : World) (g : Nat) (tA oA bA : Option Addr) (tc oc bc : Nat) (s : QS) (b : Bk) (vt vo va vb : SV) (ros : List RO) (rbs : List RB) (L : List (List RF)) (r : RO) (x : QO) (h0 : Chg (fun _ => False) w0 w) (h : BkR w w0.heap.size g tA oA bA tc oc bc s b vt vo va vb) (hok : BkOk s b) (hV : SView w0 tA oA bA s ros rbs L) (hn : s.texts.length ≤ 1048576) (hno : s.objs.length ≤ 1048576) (hr : RawO w0 r x) (hnn : ∀ v ∈ x.items, v.n ≤ 9223372036854775807) (hkn : ∀ v ∈ x.keys, v ≤ 9223372036854775807) (hln : x.items.length ≤ 1048576) (hlk : x.keys.length ≤ 1048576) :
    Calls Try.prog 57 #[.pointer (some ⟨g, 0, none⟩), .agg (cellsRO r).toArray] w (ObjPost w w0.heap.size g tA oA bA tc oc bc s (numO s b x) va vb) := by
  obtain ⟨k, ⟨iA, iN, iC⟩, ⟨kA, kN, kC⟩, f, c, u⟩ := r
  obtain ⟨xk, its, ks, xf, xc, xh⟩ := x
  obtain ⟨e1, e2, e3, e4, e5, e6⟩ := hr
  simp only at e1 e2 e3 e4 e5 e6 hnn hkn hln hlk
  subst e1 e2 e3 e4
  by_cases hk : k = 7
  · subst hk
    exact book_objectR w0 w g tA oA bA tc oc bc s b vt vo va vb ros rbs L iA kA iN iC kN kC f c u its ks h0 h hok hV hn hno e5 e6 hnn hkn hln hlk
  · exact book_objectN w0 w g tA oA bA tc oc bc s b vt vo va vb ros rbs L iA kA iN iC kN kC k f c u its ks h0 h hok hV hn hno e5 e6 hnn hkn hln hlk hk
theorem metN_len (l : List Nat) (k : Nat) : l.length ≤ (metN l k).2.length := by
  unfold metN
  split
  · exact Nat.le_refl _
  · simp
theorem numV_len (s : QS) (b : Bk) (v : QV) : b.os.length ≤ (numV s b v).2.os.length := by
  unfold numV
  split
  · unfold numT
    split <;> exact Nat.le_refl _
  · split
    · exact metN_len _ _
    · exact Nat.le_refl _
theorem numT_len (s : QS) (b : Bk) (n : Int) : b.os.length ≤ (numT s b n).2.os.length := by
  unfold numT
  split <;> exact Nat.le_refl _
theorem mapV_len (s : QS) (n : Nat) (l : List QV) (b : Bk) (h : n ≤ b.os.length) : n ≤ (mapS (numV s) b l).2.os.length := mapS_inv (P := fun b => n ≤ b.os.length) (fun b v h => Nat.le_trans h (numV_len s b v)) l b h
theorem fieldsS_os (s : QS) (b : Bk) (keys : List Int) (items : List QV) : ∀ n, b.os.length ≤ (fieldsS s b keys items n).2.os.length
  | 0 => Nat.le_refl _
  | n + 1 => by
    have h := fieldsS_os s b keys items n
    rw [fieldsS_succ]
    unfold fieldS
    cases keys[n]? with
    | none => cases items[n]? with
      | none => exact h
      | some v => exact Nat.le_trans h (numV_len _ _ _)
    | some k => cases items[n]? with
      | none => exact Nat.le_trans h (numT_len _ _ _)
      | some v => exact Nat.le_trans (Nat.le_trans h (numT_len _ _ _)) (numV_len _ _ _)
theorem numO_len (s : QS) (b : Bk) (o : QO) : b.os.length ≤ (numO s b o).2.os.length := by
  unfold numO
  split
  · exact mapV_len s _ _ _ (Nat.le_refl _)
  · exact fieldsS_os _ _ _ _ _
theorem stepO_at {s : QS} {a : List QO × Bk} {m : Nat} {o : QO} (h : a.2.os[a.1.length]? = some m) (ho : s.objs[m]? = some o) : stepO s a = (a.1 ++ [(numO s a.2 o).1], (numO s a.2 o).2) := by
  unfold stepO
  rw [h]
  simp only [ho]
def CanR1 (w : World) (tA oA bA : Option Addr) (tc oc bc : Nat) (s : QS) (i : Value) (wr : World) : Prop := ∃ (k : Nat) (aA : Option Addr) (aN aC : Nat), i = .int .i64 k ∧ k ≤ s.texts.length ∧ Aside0 (wr.heap[w.heap.size]? = some (.cells #[.slice tA s.texts.length tc, .slice oA s.objs.length oc, .slice bA s.fibers.length bc, .int .i64 s.cur, .int .i64 s.steps, .int .i64 s.spent, .int .i64 s.read] 40)) ∧ Aside0 (wr.heap[w.heap.size + 1]? = some (.cells #[.slice none 0 0, .slice none 0 0, .slice none 0 0, .int .i64 0, .int .i64 0, .int .i64 0, .int .i64 0] 40)) ∧ Aside0 (wr.heap[w.heap.size + 1 + 1]? = some (.cells #[.slice tA s.texts.length tc, .slice oA s.objs.length oc, .slice bA s.fibers.length bc, .int .i64 s.cur, .int .i64 s.steps, .int .i64 s.spent, .int .i64 s.read, .slice none 0 0, .slice none 0 0, .slice aA aN aC, .slice none 0 0] 114)) ∧ Aside0 (Ow (Kd.int .i64) 3 wr w.heap.size (aA, aN, aC) (List.replicate k (-1))) ∧ Aside0 (Chg (fun _ => False) w wr)
def CanR2 (w : World) (tA oA bA : Option Addr) (tc oc bc : Nat) (s : QS) (aA : Option Addr) (aN aC : Nat) (i : Value) (wr : World) : Prop := ∃ (k : Nat) (bA' : Option Addr) (bN bC : Nat), i = .int .i64 k ∧ k ≤ s.objs.length ∧ Aside0 (wr.heap[w.heap.size]? = some (.cells #[.slice tA s.texts.length tc, .slice oA s.objs.length oc, .slice bA s.fibers.length bc, .int .i64 s.cur, .int .i64 s.steps, .int .i64 s.spent, .int .i64 s.read] 40)) ∧ Aside0 (wr.heap[w.heap.size + 1]? = some (.cells #[.slice none 0 0, .slice none 0 0, .slice none 0 0, .int .i64 0, .int .i64 0, .int .i64 0, .int .i64 0] 40)) ∧ Aside0 (wr.heap[w.heap.size + 1 + 1]? = some (.cells #[.slice tA s.texts.length tc, .slice oA s.objs.length oc, .slice bA s.fibers.length bc, .int .i64 s.cur, .int .i64 s.steps, .int .i64 s.spent, .int .i64 s.read, .slice none 0 0, .slice none 0 0, .slice aA aN aC, .slice bA' bN bC] 114)) ∧ Aside0 (Ow (Kd.int .i64) 3 wr w.heap.size (aA, aN, aC) (List.replicate s.texts.length (-1))) ∧ Aside0 (Ow (Kd.int .i64) 3 wr w.heap.size (bA', bN, bC) (List.replicate k (-1))) ∧ Aside0 (apart (aA, aN, aC) (bA', bN, bC)) ∧ Aside0 (Chg (fun _ => False) w wr)
def CanR3 (w : World) (tA oA bA : Option Addr) (tc oc bc : Nat) (s : QS) (va vb : SV) (gx : Nat) (i : Value) (wr : World) : Prop := ∃ (k v3N v3C : Nat) (v3A : Option Addr) (Z : List (RB × List RF)) (vt vo : SV), i = .int .i64 k ∧ k ≤ s.fibers.length ∧ Aside0 (wr.heap[w.heap.size]? = some (.cells #[.slice tA s.texts.length tc, .slice oA s.objs.length oc, .slice bA s.fibers.length bc, .int .i64 s.cur, .int .i64 s.steps, .int .i64 s.spent, .int .i64 s.read] 40)) ∧ Aside0 (wr.heap[w.heap.size + 1]? = some (.cells #[.slice none 0 0, .slice none 0 0, .slice none 0 0, .int .i64 0, .int .i64 0, .int .i64 0, .int .i64 0] 40)) ∧ Aside0 (wr.heap[gx]? = some (.cells #[.slice none 0 0, .slice none 0 0, .slice v3A v3N v3C, .int .i64 s.cur, .int .i64 s.steps, .int .i64 s.spent, .int .i64 s.read] 40)) ∧ Aside0 (Ow kRB 51 wr w.heap.size (v3A, v3N, v3C) (Z.map (·.1))) ∧ Aside0 (BC wr w.heap.size Z (mapS (numB s) ⟨[], []⟩ (s.fibers.take k)).1) ∧ Aside0 (BA Z) ∧ Aside0 (BkR wr w.heap.size (w.heap.size + 1 + 1) tA oA bA tc oc bc s (mapS (numB s) ⟨[], []⟩ (s.fibers.take k)).2 vt vo va vb) ∧ Aside0 (Chg (fun _ => False) w wr) ∧ gx < wr.heap.size
def CanR4 (w wo : World) (tA oA bA : Option Addr) (tc oc bc : Nat) (s : QS) (va vb : SV) (gx v3N v3C : Nat) (v3A : Option Addr) (b1 : Bk) (fs : List QFr) (v i : Value) (wr : World) : Prop := ∃ (k lN lC : Nat) (lA : Option Addr) (rs : List RF) (vt vo : SV), v = .slice lA lN lC ∧ i = .int .i64 k ∧ k ≤ fs.length ∧ Aside0 (wr.heap[w.heap.size]? = some (.cells #[.slice tA s.texts.length tc, .slice oA s.objs.length oc, .slice bA s.fibers.length bc, .int .i64 s.cur, .int .i64 s.steps, .int .i64 s.spent, .int .i64 s.read] 40)) ∧ Aside0 (wr.heap[w.heap.size + 1]? = some (.cells #[.slice none 0 0, .slice none 0 0, .slice none 0 0, .int .i64 0, .int .i64 0, .int .i64 0, .int .i64 0] 40)) ∧ Aside0 (wr.heap[gx]? = some (.cells #[.slice none 0 0, .slice none 0 0, .slice v3A v3N v3C, .int .i64 s.cur, .int .i64 s.steps, .int .i64 s.spent, .int .i64 s.read] 40)) ∧ Aside0 (Ow kRF 54 wr wo.heap.size (lA, lN, lC) rs) ∧ Aside0 (FC wr w.heap.size rs (mapS (numF s) b1 (fs.take k)).1) ∧ Aside0 (BkR wr w.heap.size (w.heap.size + 1 + 1) tA oA bA tc oc bc s (mapS (numF s) b1 (fs.take k)).2 vt vo va vb) ∧ Aside0 (Turn wo wr w.heap.size [3, 114])
def CanR5 (w : World) (tA oA bA : Option Addr) (tc oc bc : Nat) (s : QS) (va vb : SV) (gx v3N v3C : Nat) (v3A : Option Addr) (Z : List (RB × List RF)) (i : Value) (wr : World) : Prop := ∃ (k v2N v2C : Nat) (v2A : Option Addr) (ros2 : List RO) (vt vo : SV), i = .int .i64 k ∧ (iterO s (startQ s).2 k).1.length = k ∧ k ≤ (iterO s (startQ s).2 k).2.os.length ∧ Aside0 (wr.heap[w.heap.size]? = some (.cells #[.slice tA s.texts.length tc, .slice oA s.objs.length oc, .slice bA s.fibers.length bc, .int .i64 s.cur, .int .i64 s.steps, .int .i64 s.spent, .int .i64 s.read] 40)) ∧ Aside0 (wr.heap[w.heap.size + 1]? = some (.cells #[.slice none 0 0, .slice none 0 0, .slice none 0 0, .int .i64 0, .int .i64 0, .int .i64 0, .int .i64 0] 40)) ∧ Aside0 (wr.heap[gx]? = some (.cells #[.slice none 0 0, .slice v2A v2N v2C, .slice v3A v3N v3C, .int .i64 s.cur, .int .i64 s.steps, .int .i64 s.spent, .int .i64 s.read] 40)) ∧ Aside0 (Ow kRO 59 wr w.heap.size (v2A, v2N, v2C) ros2) ∧ Aside0 (OC wr w.heap.size ros2 (iterO s (startQ s).2 k).1) ∧ Aside0 (Ow kRB 51 wr w.heap.size (v3A, v3N, v3C) (Z.map (·.1))) ∧ Aside0 (BC wr w.heap.size Z (startQ s).1) ∧ Aside0 (BkR wr w.heap.size (w.heap.size + 1 + 1) tA oA bA tc oc bc s (iterO s (startQ s).2 k).2 vt vo va vb) ∧ Aside0 (Chg (fun _ => False) w wr) ∧ gx < wr.heap.size
def CanR6 (w : World) (tA oA bA : Option Addr) (tc oc bc : Nat) (s : QS) (va vb vt vo : SV) (gx v2N v2C v3N v3C : Nat) (v2A v3A : Option Addr) (ros2 : List RO) (L2 : List QO) (B : Bk) (Z : List (RB × List RF)) (i : Value) (wr : World) : Prop := ∃ (k v1N v1C : Nat) (v1A : Option Addr), i = .int .i64 k ∧ k ≤ B.ts.length ∧ Aside0 (wr.heap[w.heap.size]? = some (.cells #[.slice tA s.texts.length tc, .slice oA s.objs.length oc, .slice bA s.fibers.length bc, .int .i64 s.cur, .int .i64 s.steps, .int .i64 s.spent, .int .i64 s.read] 40)) ∧ Aside0 (wr.heap[w.heap.size + 1]? = some (.cells #[.slice none 0 0, .slice none 0 0, .slice none 0 0, .int .i64 0, .int .i64 0, .int .i64 0, .int .i64 0] 40)) ∧ Aside0 (wr.heap[gx]? = some (.cells #[.slice v1A v1N v1C, .slice v2A v2N v2C, .slice v3A v3N v3C, .int .i64 s.cur, .int .i64 s.steps, .int .i64 s.spent, .int .i64 s.read] 40)) ∧ Aside0 (Ow Kd.string 9 wr w.heap.size (v1A, v1N, v1C) (textsQ s (B.ts.take k))) ∧ Aside0 (Ow kRO 59 wr w.heap.size (v2A, v2N, v2C) ros2) ∧ Aside0 (OC wr w.heap.size ros2 L2) ∧ Aside0 (Ow kRB 51 wr w.heap.size (v3A, v3N, v3C) (Z.map (·.1))) ∧ Aside0 (BC wr w.heap.size Z (startQ s).1) ∧ Aside0 (BkR wr w.heap.size (w.heap.size + 1 + 1) tA oA bA tc oc bc s B vt vo va vb) ∧ Aside0 (Chg (fun _ => False) w wr)
structure SBound (s : QS) : Prop where
  sl : ∀ b ∈ s.fibers, ∀ f ∈ b.frames, ∀ v ∈ f.slots, v.n ≤ 9223372036854775807
  it : ∀ x ∈ s.objs, ∀ v ∈ x.items, v.n ≤ 9223372036854775807
  ky : ∀ x ∈ s.objs, ∀ v ∈ x.keys, v ≤ 9223372036854775807
def CanonPost (w : World) (s : QS) (e : Ending) (w' : World) : Prop := ∃ (v1 v2 v3 : SV) (ros : List RO) (Z : List (RB × List RF)), e = .returned (.agg #[svl v1, svl v2, svl v3, .int .i64 s.cur, .int .i64 s.steps, .int .i64 s.spent, .int .i64 s.read]) ∧ SOwn w' w.heap.size v1 v2 v3 (CanonQ s) ros Z ∧ Chg (fun _ => False) w w'
theorem own_old {α : Type} {kd : Kd α} {e : TypeId} {w0 w w' : World} {v : SV} {xs : List α} (h0 : Chg (fun _ => False) w0 w) (h : Ow kd e w w0.heap.size v xs) (hc : Chg (fun b => (svl v).ownBlock = some b) w w') : Chg (fun _ => False) w0 w' := h0.trans hc (fun b hb h1 => by have := h.2 b h1; omega)
theorem chg_set_old {w0 w : World} {g i : Nat} {u : Value} (h0 : Chg (fun _ => False) w0 w) (hg : w0.heap.size ≤ g) : Chg (fun _ => False) w0 (w.setCell ⟨g, i, none⟩ u) := h0.trans (chg_set w g i u) (fun b hb h1 => by omega)
theorem pair_snoc {α β : Type} {rs : List α} {xs : List β} {R : α → β → Prop} {r : α} {x : β} (h : rs.length = xs.length ∧ ∀ (j : Nat) (a : α) (b : β), rs[j]? = some a → xs[j]? = some b → R a b) (hr : R r x) : (rs ++ [r]).length = (xs ++ [x]).length ∧ ∀ (j : Nat) (a : α) (b : β), (rs ++ [r])[j]? = some a → (xs ++ [x])[j]? = some b → R a b := by
  have h1 := pair_step (k := xs.length) (xs := xs ++ [x]) (R := R) (r := r) (x := x) (rs := rs) (by rw [List.take_left']; exact h; rfl) (by simp) hr
  rw [List.take_of_length_le (by simp)] at h1
  exact h1
theorem hits_set {w : World} {lo g : Nat} {t : TypeId} {ts : List TypeId} {cs : Array Value} (hg : w.heap[g]? = some (.cells cs t (0, 0))) (hd : t ∉ ts) : Hits w lo (fun j => j = g) ts := fun b cs' t' hb _ hc hm => hd (by
  have h1 := cells_t hg (hb ▸ hc)
  rw [← h1]; exact hm)
theorem ow_set7 {α : Type} {kd : Kd α} {e t : TypeId} {w w' : World} {lo g : Nat} {v : SV} {xs : List α} {cs : Array Value} (h : Ow kd e w lo v xs) (hc : Chg (fun j => j = g) w w') (hg : w.heap[g]? = some (.cells cs t (0, 0))) (hd : e ≠ t) : Ow kd e w' lo v xs := h.chg hc (fun j h1 h2 => ow_blk_ne h (h2 ▸ hg) hd h1)
theorem BC.turn {w w' : World} {lo lo' : Nat} {Z : List (RB × List RF)} {xs : List QB} (h : BC w lo Z xs) (ht : Turn w w' lo' [3, 114]) : BC w' lo Z xs := by
  obtain ⟨S, hc, _, hS⟩ := ht
  exact h.hit hc (Turn.hits hS (by decide))
theorem FC.turn {w w' : World} {lo lo' : Nat} {rs : List RF} {xs : List QFr} (h : FC w lo rs xs) (ht : Turn w w' lo' [3, 114]) : FC w' lo rs xs := by
  obtain ⟨S, hc, _, hS⟩ := ht
  exact h.hit hc (Turn.hits hS (by decide))
theorem OC.turn {w w' : World} {lo lo' : Nat} {rs : List RO} {xs : List QO} (h : OC w lo rs xs) (ht : Turn w w' lo' [3, 114]) : OC w' lo rs xs := by
  obtain ⟨S, hc, _, hS⟩ := ht
  exact h.hit hc (Turn.hits hS (by decide))
theorem BC.new {w w' : World} {lo : Nat} {Z : List (RB × List RF)} {xs : List QB} (h : BC w lo Z xs) (hc : Chg (fun _ => False) w w') : BC w' lo Z xs := h.hit hc Hits.no
theorem FC.new {w w' : World} {lo : Nat} {rs : List RF} {xs : List QFr} (h : FC w lo rs xs) (hc : Chg (fun _ => False) w w') : FC w' lo rs xs := h.hit hc Hits.no
theorem OC.new {w w' : World} {lo : Nat} {rs : List RO} {xs : List QO} (h : OC w lo rs xs) (hc : Chg (fun _ => False) w w') : OC w' lo rs xs := h.hit hc Hits.no
theorem BC.set {w : World} {lo g i : Nat} {Z : List (RB × List RF)} {xs : List QB} {t : TypeId} {cs : Array Value} {u : Value} (h : BC w lo Z xs) (hg : w.heap[g]? = some (.cells cs t (0, 0))) (hd : t ∉ [56, 54]) : BC (w.setCell ⟨g, i, none⟩ u) lo Z xs := h.hit (chg_set w g i u) (hits_set hg hd)
theorem FC.set {w : World} {lo g i : Nat} {rs : List RF} {xs : List QFr} {t : TypeId} {cs : Array Value} {u : Value} (h : FC w lo rs xs) (hg : w.heap[g]? = some (.cells cs t (0, 0))) (hd : t ∉ [56]) : FC (w.setCell ⟨g, i, none⟩ u) lo rs xs := h.hit (chg_set w g i u) (hits_set hg hd)
theorem OC.set {w : World} {lo g i : Nat} {rs : List RO} {xs : List QO} {t : TypeId} {cs : Array Value} {u : Value} (h : OC w lo rs xs) (hg : w.heap[g]? = some (.cells cs t (0, 0))) (hd : t ∉ [56, 2]) : OC (w.setCell ⟨g, i, none⟩ u) lo rs xs := h.hit (chg_set w g i u) (hits_set hg hd)
theorem BC.old {w w' : World} {lo hi : Nat} {S : Nat → Prop} {Z : List (RB × List RF)} {xs : List QB} (h : BC w lo Z xs) (hc : Chg S w w') (hS : ∀ b, S b → w.heap.size ≤ b) : BC w' lo Z xs := h.hit hc (fun b cs t hb _ he => by
  have h1 := blk_lt he
  have h2 := hS b hb
  omega)
theorem atL_nil (n : Nat) : atL n [] = List.replicate n (-1) := by
  apply List.ext_getElem?
  intro j
  rcases Nat.lt_or_ge j n with hj | hj
  · rw [atL_at hj, if_neg (by simp), List.getElem?_replicate, if_pos hj]
  · rw [List.getElem?_eq_none (by rw [atL_len]; omega), List.getElem?_eq_none (by rw [List.length_replicate]; omega)]
set_option maxHeartbeats 4000000
theorem ref_Canon (w : World) (tA oA bA : Option Addr) (tc oc bc : Nat) (s : QS) (ros : List RO) (rbs : List RB) (L : List (List RF)) (hV : SView w tA oA bA s ros rbs L) (hs : SSmall s) (hb : SBound s) :
    Calls Try.prog 20 #[.agg #[.slice tA s.texts.length tc, .slice oA s.objs.length oc, .slice bA s.fibers.length bc, .int .i64 s.cur, .int .i64 s.steps, .int .i64 s.spent, .int .i64 s.read]] w (CanonPost w s) := by
  have hVA := Aside0.mk hV
  have hS := Aside0.mk hs
  have hBd := Aside0.mk hb
  have hn1 := hs.t
  have hn2 := hs.o
  have hn3 := hs.b
  clear hV hs hb
  go_enter Try.func20, Try.ntmps20
  go_upto_region 2 with (fail)
  (try simp only [Act.put, List.setIfInBounds_toArray, List.set_cons_zero, List.set_cons_succ])
  generalize hW : World.alloc (World.alloc (World.alloc w _) _) _ = W0
  have B1 : Aside0 (W0.heap[w.heap.size]? = some (.cells #[.slice tA s.texts.length tc, .slice oA s.objs.length oc, .slice bA s.fibers.length bc, .int .i64 s.cur, .int .i64 s.steps, .int .i64 s.spent, .int .i64 s.read] 40)) := ⟨by rw [← hW]; exact (((Chg.refl (fun _ => False) (w.alloc _)).alloc _).alloc _).blk (heap_alloc_new w _) (fun e => e)⟩
  have B2 : Aside0 (W0.heap[w.heap.size + 1]? = some (.cells #[.slice none 0 0, .slice none 0 0, .slice none 0 0, .int .i64 0, .int .i64 0, .int .i64 0, .int .i64 0] 40)) := ⟨by rw [← hW]; exact ((Chg.refl (fun _ => False) ((w.alloc _).alloc _)).alloc _).blk (heap_alloc2_new w _ _) (fun e => e)⟩
  have B3 : Aside0 (W0.heap[w.heap.size + 1 + 1]? = some (.cells #[.slice tA s.texts.length tc, .slice oA s.objs.length oc, .slice bA s.fibers.length bc, .int .i64 s.cur, .int .i64 s.steps, .int .i64 s.spent, .int .i64 s.read, .slice none 0 0, .slice none 0 0, .slice none 0 0, .slice none 0 0] 114)) := ⟨by rw [← hW]; exact heap_al3 w _ _ _⟩
  have hz0 : Aside0 (Chg (fun _ => False) w W0) := ⟨by rw [← hW]; exact cg⟩
  clear hW
  have hgt := blk_lt B3.out
  go_wp2
  go_loopw [4] (fun i wr => CanR1 w tA oA bA tc oc bc s i wr) (fun i _ => s.texts.length - (intOf i).toNat)
  case atStart => exact ⟨0, none, 0, 0, rfl, by omega, B1, B2, B3, ⟨Ow.nil _ _ _ _⟩, hz0⟩
  case round =>
    clear B1 B2 B3 hz0
    obtain ⟨k, aA, aN, aC, rfl, hk, hP, hR, hK, hO, hCh⟩ := hrel
    have p0 : wr.cell? ⟨w.heap.size, 0, none⟩ = some (.slice tA s.texts.length tc) := blk_cell hP.out 0
    by_cases hlt : k < s.texts.length
    · have p9 : wr.cell? ⟨w.heap.size + 1 + 1, 9, none⟩ = some (.slice aA aN aC) := blk_cell hK.out 9
      have hk1 : (k : Int) < s.texts.length := by omega
      have hRd := own_new0 hO.out.1
      have hCd : Aside0 (Chg (fun b => (svl (aA, aN, aC)).ownBlock = some b) wr wr) := ⟨Chg.refl _ _⟩
      have hl : Aside0 (((List.replicate k (-1 : Int)).length + 1) * 8 ≤ 140737488355328) := ⟨by rw [List.length_replicate]; omega⟩
      go_wp2_with ((at_builtin; go_must (refine app1 (Kd.int .i64) rfl (.tmp 28) (.tmp 29) rfl Try.underlying97 infoInt rfl (by decide) (by decide) (-1) rfl rfl rfl hRd hCd hl ?_); go_must (intro v1 w2 hr2 hc2); go_must (obtain ⟨zA, zN, zC, rfl⟩ := R_sl hr2.out); go_must (have hK2 := Aside0.mk (hc2.out.blk hK.out (fun e => ow_blk_ne hO.out hK.out (by decide) e))); go_must (have cx2 := blk_cell hK2.out 9); go_must (have fx2 := blk_frozen hK2.out 9)))
      go_roundw
      case measure => first | (simp [intOf]; done) | (simp [intOf]; omega)
      case rel =>
        have hsz := hCh.out.size
        have hO2 := Ow.app (v1 := (zA, zN, zC)) rfl hO.out hr2.out hsz
        rw [← List.replicate_succ'] at hO2
        have hP2 := hc2.out.blk hP.out (fun e => ow_blk_ne hO.out hP.out (by decide) e)
        have hR2 := hc2.out.blk hR.out (fun e => ow_blk_ne hO.out hR.out (by decide) e)
        exact ⟨k + 1, zA, zN, zC, by go_num, by omega, ⟨blk_setne hP2 (by omega)⟩, ⟨blk_setne hR2 (by omega)⟩, ⟨blk_set hK2.out 9 (.slice zA zN zC)⟩, ⟨ow_set hO2 hK2.out (by decide)⟩, ⟨chg_set_old (own_old hCh.out hO.out hc2.out) (by omega)⟩⟩
    · obtain rfl : k = s.texts.length := by omega
      clear hk hlt
      go_wp2
      clear p0
      go_loopw [5] (fun i wr => CanR2 w tA oA bA tc oc bc s aA aN aC i wr) (fun i _ => s.objs.length - (intOf i).toNat)
      case atStart => exact ⟨0, none, 0, 0, rfl, by omega, hP, hR, hK, hO, ⟨Ow.nil _ _ _ _⟩, ⟨fun j _ h => by simp [svl, Value.ownBlock] at h⟩, hCh⟩
      case round =>
        clear hP hR hK hO hCh
        obtain ⟨k, bA', bN, bC, rfl, hk, hP, hR, hK, hA, hO, hAp, hCh⟩ := hrel
        have p1 : wr.cell? ⟨w.heap.size, 1, none⟩ = some (.slice oA s.objs.length oc) := blk_cell hP.out 1
        by_cases hlt : k < s.objs.length
        · have p10 : wr.cell? ⟨w.heap.size + 1 + 1, 10, none⟩ = some (.slice bA' bN bC) := blk_cell hK.out 10
          have hk1 : (k : Int) < s.objs.length := by omega
          have hRd := own_new0 hO.out.1
          have hCd : Aside0 (Chg (fun b => (svl (bA', bN, bC)).ownBlock = some b) wr wr) := ⟨Chg.refl _ _⟩
          have hl : Aside0 (((List.replicate k (-1 : Int)).length + 1) * 8 ≤ 140737488355328) := ⟨by rw [List.length_replicate]; omega⟩
          go_wp2_with ((at_builtin; go_must (refine app1 (Kd.int .i64) rfl (.tmp 44) (.tmp 45) rfl Try.underlying97 infoInt rfl (by decide) (by decide) (-1) rfl rfl rfl hRd hCd hl ?_); go_must (intro v1 w2 hr2 hc2); go_must (obtain ⟨zA, zN, zC, rfl⟩ := R_sl hr2.out); go_must (have hK2 := Aside0.mk (hc2.out.blk hK.out (fun e => ow_blk_ne hO.out hK.out (by decide) e))); go_must (have cx2 := blk_cell hK2.out 10); go_must (have fx2 := blk_frozen hK2.out 10)))
          go_roundw
          case measure => first | (simp [intOf]; done) | (simp [intOf]; omega)
          case rel =>
            have hsz := hCh.out.size
            have hO2 := Ow.app (v1 := (zA, zN, zC)) rfl hO.out hr2.out hsz
            rw [← List.replicate_succ'] at hO2
            have hP2 := hc2.out.blk hP.out (fun e => ow_blk_ne hO.out hP.out (by decide) e)
            have hR2 := hc2.out.blk hR.out (fun e => ow_blk_ne hO.out hR.out (by decide) e)
            have hA2 := hA.out.chg hc2.out (fun j h1 h2 => hAp.out j h1 h2)
            have hAp2 : apart (aA, aN, aC) (zA, zN, zC) := fun j h1 h2 => by
              rcases hr2.out.1 j h2 with h3 | h3
              · exact hAp.out j h1 h3
              · have := hA.out.lt j h1
                omega
            exact ⟨k + 1, zA, zN, zC, by go_num, by omega, ⟨blk_setne hP2 (by omega)⟩, ⟨blk_setne hR2 (by omega)⟩, ⟨blk_set hK2.out 10 (.slice zA zN zC)⟩, ⟨ow_set hA2 hK2.out (by decide)⟩, ⟨ow_set hO2 hK2.out (by decide)⟩, ⟨hAp2⟩, ⟨chg_set_old (own_old hCh.out hO.out hc2.out) (by omega)⟩⟩
        · obtain rfl : k = s.objs.length := by omega
          clear hk hlt
          have hBk := Aside0.mk (show BkR wr w.heap.size (w.heap.size + 1 + 1) tA oA bA tc oc bc s ⟨[], []⟩ (none, 0, 0) (none, 0, 0) (aA, aN, aC) (bA', bN, bC) from ⟨hK.out, by omega, Ow.nil _ _ _ _, Ow.nil _ _ _ _, by rw [atL_nil]; exact hA.out, by rw [atL_nil]; exact hO.out, fun j h _ => by simp [svl, Value.ownBlock] at h, fun j h _ => by simp [svl, Value.ownBlock] at h, fun j h _ => by simp [svl, Value.ownBlock] at h, fun j h _ => by simp [svl, Value.ownBlock] at h, fun j h _ => by simp [svl, Value.ownBlock] at h, hAp.out⟩)
          have p3 : wr.cell? ⟨w.heap.size, 3, none⟩ = some (.int .i64 s.cur) := blk_cell hP.out 3
          have p4 : wr.cell? ⟨w.heap.size, 4, none⟩ = some (.int .i64 s.steps) := blk_cell hP.out 4
          have p5 : wr.cell? ⟨w.heap.size, 5, none⟩ = some (.int .i64 s.spent) := blk_cell hP.out 5
          have p6 : wr.cell? ⟨w.heap.size, 6, none⟩ = some (.int .i64 s.read) := blk_cell hP.out 6
          go_upto_region 11 with (fail)
          (try simp only [Act.put, List.setIfInBounds_toArray, List.set_cons_zero, List.set_cons_succ])
          generalize hW : World.alloc wr _ = W3
          obtain ⟨gx, hgx⟩ : ∃ gx, gx = wr.heap.size := ⟨_, rfl⟩
          rw [← hgx]
          have hX : Aside0 (W3.heap[gx]? = some (.cells #[.slice none 0 0, .slice none 0 0, .slice none 0 0, .int .i64 s.cur, .int .i64 s.steps, .int .i64 s.spent, .int .i64 s.read] 40)) := ⟨by rw [hgx, ← hW]; exact heap_alloc_new wr _⟩
          have hz3 : Aside0 (Chg (fun _ => False) wr W3) := ⟨by rw [← hW]; exact cg⟩
          replace hP := Aside0.mk (hz3.out.blk hP.out (fun h => h))
          replace hR := Aside0.mk (hz3.out.blk hR.out (fun h => h))
          replace hBk := Aside0.mk (hBk.out.new hz3.out)
          replace hCh := Aside0.mk (hCh.out.trans hz3.out (fun _ _ h => h))
          have hgx1 : w.heap.size + 1 + 1 < gx := by have := blk_lt hK.out; omega
          have hgx2 := blk_lt hX.out
          clear hW hgx hz3 hK hA hO hAp p1 p3 p4 p5 p6
          generalize hva : (aA, aN, aC) = va at hBk
          generalize hvb : (bA', bN, bC) = vb at hBk
          clear hva hvb
          go_wp2
          go_loopw [7] (fun i wr => CanR3 w tA oA bA tc oc bc s va vb gx i wr) (fun i _ => s.fibers.length - (intOf i).toNat)
          case atStart => exact ⟨0, 0, 0, none, [], _, _, rfl, by omega, hP, hR, hX, ⟨Ow.nil _ _ _ _⟩, ⟨rfl, fun k z x h => by simp at h⟩, ⟨fun i j y z b _ h => by simp at h⟩, hBk, hCh, hgx2⟩
          case round =>
            clear hP hR hX hBk hCh hgx2
            obtain ⟨k, v3N, v3C, v3A, Z, vt, vo, rfl, hk, hP, hR, hX, hO3, hBC, hBA, hBk, hCh, hgx2⟩ := hrel
            obtain ⟨wo, rfl⟩ : ∃ wo : World, wo = wr := ⟨_, rfl⟩
            have p2 : wo.cell? ⟨w.heap.size, 2, none⟩ = some (.slice bA s.fibers.length bc) := blk_cell hP.out 2
            by_cases hlt : k < s.fibers.length
            · obtain ⟨x, hx⟩ : ∃ x, s.fibers[k]? = some x := ⟨_, List.getElem?_eq_getElem hlt⟩
              have hv := hVA.out.zip
              obtain ⟨bd, q, e1, e2, z0w⟩ := atRB hv.2.2 k hlt
              subst e1
              obtain ⟨z, hz, rfl⟩ := pair_at e2
              obtain ⟨z1, z2⟩ := z
              have hzx := hv.2.1 k (z1, z2) x hz hx
              obtain ⟨⟨fA, fN, fC⟩⟩ := z1
              have hfl : fN = x.frames.length := hzx.1.1.symm.trans hzx.2.1
              subst hfl
              have hzA := Aside0.mk hzx
              have hfb := Aside0.mk (hS.out.bf x (List.mem_of_getElem? hx)).2
              have hfm := (hS.out.bf x (List.mem_of_getElem? hx)).1
              have hfs := Aside0.mk (hBd.out.sl x (List.mem_of_getElem? hx))
              have hstep := Aside0.mk (mapS_take (f := numB s) (b := ⟨[], []⟩) hx)
              have hBok : Aside0 (BkOk s (mapS (numB s) ⟨[], []⟩ (s.fibers.take k)).2) := ⟨mapS_inv (P := BkOk s) (fun b v h => numB_ok h) _ _ ⟨List.nodup_nil, List.nodup_nil, fun k h => (by cases h), fun k h => (by cases h)⟩⟩
              have hZl : Aside0 (Z.length ≤ k) := ⟨by rw [hBC.out.1, mapS_len, List.length_take]; omega⟩
              have z0W := Aside0.mk z0w
              have z0 := cell_chg0 z0w hCh.out
              have hk0 : (0 : Int) ≤ k := by omega
              have hk1 : (k : Int) < s.fibers.length := by omega
              clear e2 hx hv hz hzx z0w
              generalize (mapS (numB s) ⟨[], []⟩ (s.fibers.take k)).2 = b1 at hBk hBok hstep
              generalize (mapS (numB s) ⟨[], []⟩ (s.fibers.take k)).1 = L1 at hBC hstep
              go_wp2
              clear p2 z0
              go_loopw [8, 9] (fun v i wr => CanR4 w wo tA oA (some bd) tc oc bc s va vb gx v3N v3C v3A b1 x.frames v i wr) (fun _ i _ => x.frames.length - (intOf i).toNat)
              case atStart => exact ⟨0, 0, 0, none, [], vt, vo, rfl, rfl, by omega, hP, hR, hX, ⟨Ow.nil _ _ _ _⟩, ⟨rfl, fun k z x h => by simp at h⟩, hBk, ⟨Turn.refl _ _ _⟩⟩
              case round =>
                obtain ⟨wq, rfl⟩ : ∃ wq : World, wq = wr := ⟨_, rfl⟩
                have hO3o := hO3
                have hBCo := hBC
                clear hP hR hX hBk
                obtain ⟨j, lN, lC, lA, rs, vt, vo, rfl, rfl, hj, hP, hR, hX, hO, hFC, hBk, hT⟩ := hrel
                have hCq : Aside0 (Chg (fun _ => False) w wq) := ⟨hT.out.chg hCh.out⟩
                have p2 : wq.cell? ⟨w.heap.size, 2, none⟩ = some (.slice (some bd) s.fibers.length bc) := blk_cell hP.out 2
                have z0 := cell_chg0 z0W.out hCq.out
                by_cases hlj : j < x.frames.length
                · obtain ⟨y, hy⟩ : ∃ y, x.frames[j]? = some y := ⟨_, List.getElem?_eq_getElem hlj⟩
                  have hzq := hzA.out
                  obtain ⟨fd, r, e1, e2, x0, x1, x2⟩ := atRF (C_chg hzq.1 (hCq.out.below (fun _ _ h => h))) j hlj
                  simp only at e1
                  subst e1
                  have hry := hzq.2.2 j r y e2 hy
                  have hsl := Aside0.mk hry.2.2
                  have hsz := Aside0.mk (hfb.out y (List.mem_of_getElem? hy))
                  have hsn := Aside0.mk (hfs.out y (List.mem_of_getElem? hy))
                  have hrf := Aside0.mk hry.1
                  have hrp := Aside0.mk hry.2.1
                  have ht2 := Aside0.mk (mapS_take (f := numF s) (b := b1) hy)
                  have hBok2 : Aside0 (BkOk s (mapS (numF s) b1 (x.frames.take j)).2) := ⟨mapS_inv (P := BkOk s) (fun b v h => numF_ok h) _ _ hBok.out⟩
                  have hrl : Aside0 (rs.length ≤ j) := ⟨by rw [hFC.out.1, mapS_len, List.length_take]; omega⟩
                  have hj0 : (0 : Int) ≤ j := by omega
                  have hj1 : (j : Int) < x.frames.length := by omega
                  clear e2 hy hzq hry
                  generalize (mapS (numF s) b1 (x.frames.take j)).2 = B at hBk hBok2 ht2
                  generalize (mapS (numF s) b1 (x.frames.take j)).1 = L2 at hFC ht2
                  go_upto_region 19 with (fail)
                  (try simp only [Act.put, List.setIfInBounds_toArray, List.set_cons_zero, List.set_cons_succ])
                  generalize hW : World.alloc wq _ = Wa
                  obtain ⟨gf, hgf⟩ : ∃ gf, gf = wq.heap.size := ⟨_, rfl⟩
                  rw [← hgf]
                  have hF : Aside0 (Wa.heap[gf]? = some (.cells #[.int .i64 r.fn, .int .i64 r.pc, .slice r.slots.1 r.slots.2.1 r.slots.2.2] 54)) := ⟨by rw [hgf, ← hW]; exact heap_alloc_new wq _⟩
                  have hza : Aside0 (Chg (fun _ => False) wq Wa) := ⟨by rw [← hW]; exact cg⟩
                  have hCa := Aside0.mk (hCq.out.trans hza.out (fun _ _ h => h))
                  have hBa := Aside0.mk (hBk.out.new hza.out)
                  have hgfo : Aside0 (wo.heap.size ≤ gf) := ⟨by rw [hgf]; exact hT.out.size⟩
                  have hgfq := Aside0.mk hgf
                  have hWa := Aside0.mk hCa.out.size
                  clear hW hgf p2 z0 x0 x1 x2
                  have p87 : Wa.cell? ⟨gf, 2, none⟩ = some (.slice r.slots.1 r.slots.2.1 r.slots.2.2) := blk_cell hF.out 2
                  go_upto_region 20 with ((go_at_call 56; go_must (refine (book_values w Wa (w.heap.size + 1 + 1) tA oA (some bd) tc oc bc s B vt vo va vb ros rbs L r.slots.1 r.slots.2.1 r.slots.2.2 y.slots hCa.out hBa.out hBok2.out hVA.out hn1 hn2 hsl.out hsn.out hsz.out).mono ?_); go_must (rintro e w1 ⟨vt3, vo3, ⟨sA, sN, sC⟩, rfl, hB1, hT1, hO1⟩); go_must (replace hB1 := Aside0.mk hB1); go_must (replace hT1 := Aside0.mk hT1); go_must (replace hO1 := Aside0.mk hO1); go_must (simp only [svl]); go_must (have fx := blk_frozen (hT1.out.blk hF.out (by decide)) 2); go_must (have cx := blk_cell (hT1.out.blk hF.out (by decide)) 2)))
                  (try simp only [Act.put, List.setIfInBounds_toArray, List.set_cons_zero, List.set_cons_succ])
                  have hgx : gx < wo.heap.size := hgx2
                  have hgxf : gx < gf := by have := hgfo.out; omega
                  have hF1 := hT1.out.blk hF.out (by decide)
                  have hT1q : Turn wq w1 w.heap.size [3, 114] := Turn.new_then hza.out hT1.out
                  have hP5 := Aside0.mk (blk_setne (g := gf) (i := 2) (u := .slice sA sN sC) (hT1q.blk hP.out (by decide)) (by omega))
                  have hR5 := Aside0.mk (blk_setne (g := gf) (i := 2) (u := .slice sA sN sC) (hT1q.blk hR.out (by decide)) (by omega))
                  have hX5 := Aside0.mk (blk_setne (g := gf) (i := 2) (u := .slice sA sN sC) (hT1q.blk hX.out (by decide)) (by omega))
                  have hF5 := Aside0.mk (blk_set hF1 2 (.slice sA sN sC))
                  have hB5 := Aside0.mk (hB1.out.set (i := 2) (u := .slice sA sN sC) hF1 (by decide))
                  have hS5 := Aside0.mk (ow_set (i := 2) (u := .slice sA sN sC) hO1.out hF1 (by decide))
                  have hO5 := Aside0.mk ((hO.out.turn hT1q (by decide)).chg (chg_set w1 gf 2 (.slice sA sN sC)) (fun b h1 h2 => by have h3 := hO.out.lt b h1; have h4 := hgfq.out; omega))
                  have hFC5 := Aside0.mk ((hFC.out.turn hT1q).set (i := 2) (u := .slice sA sN sC) hF1 (by decide))
                  have hT5 : Aside0 (Turn wo _ w.heap.size [3, 114]) := ⟨(hT.out.trans hT1q).set (g := gf) (i := 2) (u := .slice sA sN sC) hgfo.out⟩
                  generalize hW : World.setCell w1 _ _ = W5 at hP5 hR5 hX5 hF5 hB5 hS5 hO5 hFC5 hT5 ⊢
                  simp only [List.setIfInBounds_toArray, List.set_cons_zero, List.set_cons_succ] at hF5
                  clear hW hT1q hF1 fx cx p87 hP hR hX hO hFC hBk hB1 hT1 hO1 hF hCq hCa hBa hza
                  have y0 : W5.cell? ⟨gf, 0, none⟩ = some (.int .i64 r.fn) := blk_cell hF5.out 0
                  have y1 : W5.cell? ⟨gf, 1, none⟩ = some (.int .i64 r.pc) := blk_cell hF5.out 1
                  have y2 : W5.cell? ⟨gf, 2, none⟩ = some (.slice sA sN sC) := blk_cell hF5.out 2
                  have hz6 : Aside0 (Chg (fun _ => False) W5 W5) := ⟨Chg.refl _ _⟩
                  have hRd := own_new0 hO5.out.1
                  have hCd : Aside0 (Chg (fun b => (svl (lA, lN, lC)).ownBlock = some b) W5 W5) := ⟨Chg.refl _ _⟩
                  have hl : Aside0 ((rs.length + 1) * 40 ≤ 140737488355328) := ⟨by have := hrl.out; omega⟩
                  go_wp2_with ((at_builtin; go_must (refine app1H kRF rfl (.tmp 90) (.tmp 92) rfl Try.underlying49 infoRF rfl (by decide) (by decide) (⟨r.fn, r.pc, (sA, sN, sC)⟩ : RF) rfl rfl (by simp) (kRF_M _ _ _ _) hRd hCd hl ?_); go_must (intro v1 w2 hr2 hc2); go_must (obtain ⟨zA, zN, zC, rfl⟩ := R_sl hr2.out)))
                  go_roundw
                  case measure => first | (simp [intOf]; done) | (simp [intOf]; omega)
                  case rel =>
                    have hlo5 := hT5.out.size
                    have hO6 := Ow.app (v1 := (zA, zN, zC)) rfl hO5.out hr2.out hlo5
                    have hP6 := hc2.out.blk hP5.out (fun e => ow_blk_ne hO5.out hP5.out (by decide) e)
                    have hR6 := hc2.out.blk hR5.out (fun e => ow_blk_ne hO5.out hR5.out (by decide) e)
                    have hX6 := hc2.out.blk hX5.out (fun e => ow_blk_ne hO5.out hX5.out (by decide) e)
                    have hB6 := hB5.out.hit hc2.out (fun j cs t hj hc => by rw [own_type hO5.out hj hc]; decide)
                    have hT6 := hT5.out.then_own hc2.out (fun b hb => hO5.out.2 b hb)
                    have hS6 := hS5.out.chg hc2.out (fun b h1 h2 => Ow.ne hS5.out hO5.out (by decide) b h1 h2)
                    have hFC6 := hFC5.out.hit hc2.out (Hits.own hO5.out (by decide))
                    refine ⟨j + 1, zN, zC, zA, rs ++ [⟨r.fn, r.pc, (sA, sN, sC)⟩], vt3, vo3, rfl, by go_num, by omega, ⟨hP6⟩, ⟨hR6⟩, ⟨hX6⟩, ⟨hO6⟩, ⟨?_⟩, ⟨?_⟩, ⟨hT6⟩⟩
                    · rw [ht2.out]
                      exact pair_snoc (R := fun (r : RF) (x : QFr) => r.fn = x.fn ∧ r.pc = x.pc ∧ Ow kQV 56 w2 w.heap.size r.slots x.slots) hFC6 ⟨hrf.out, hrp.out, hS6.mono hWa.out⟩
                    · rw [ht2.out]; exact hB6
                · obtain rfl : j = x.frames.length := by omega
                  have hO3 := Aside0.mk (hO3o.out.turn hT.out (by decide))
                  have hBC := Aside0.mk (hBCo.out.turn hT.out)
                  have x2 : wq.cell? ⟨gx, 2, none⟩ = some (.slice v3A v3N v3C) := blk_cell hX.out 2
                  have hRd := own_new0 hO3.out.1
                  have hCd : Aside0 (Chg (fun b => (svl (v3A, v3N, v3C)).ownBlock = some b) wq wq) := ⟨Chg.refl _ _⟩
                  have hl : Aside0 (((Z.map (·.1)).length + 1) * 24 ≤ 140737488355328) := ⟨by rw [List.length_map]; have := hZl.out; omega⟩
                  have hz6 : Aside0 (Chg (fun _ => False) wq wq) := ⟨Chg.refl _ _⟩
                  clear hj hlj
                  go_wp2_with ((at_builtin; go_must (refine app1H kRB rfl (.tmp 95) (.tmp 98) rfl Try.underlying38 infoRB rfl (by decide) (by decide) (⟨(lA, lN, lC)⟩ : RB) rfl rfl (by simp) (kRB_M _ _ _ _) hRd hCd hl ?_); go_must (intro v1 w2 hr2 hc2); go_must (obtain ⟨zA, zN, zC, rfl⟩ := R_sl hr2.out); go_must (have hX2 := Aside0.mk (hc2.out.blk hX.out (fun e => ow_blk_ne hO3.out hX.out (by decide) e))); go_must (have cx2 := blk_cell hX2.out 2); go_must (have fx2 := blk_frozen hX2.out 2)))
                  go_roundw
                  case measure => first | (simp [intOf]; done) | (simp [intOf]; omega)
                  case rel =>
                    have hszq := hT.out.size
                    have hszo := hCh.out.size
                    have hO4 := Ow.app (v1 := (zA, zN, zC)) rfl hO3.out hr2.out (by omega)
                    have hP2 := hc2.out.blk hP.out (fun e => ow_blk_ne hO3.out hP.out (by decide) e)
                    have hR2 := hc2.out.blk hR.out (fun e => ow_blk_ne hO3.out hR.out (by decide) e)
                    have hB2 := hBk.out.hit hc2.out (fun j cs t hj hc => by rw [own_type hO3.out hj hc]; decide)
                    have hOl := hO.out.chg hc2.out (fun b h1 h2 => Ow.ne hO.out hO3.out (by decide) b h1 h2)
                    have hFC2 := hFC.out.hit hc2.out (Hits.own hO3.out (by decide))
                    have hBC2 := hBC.out.hit hc2.out (Hits.own hO3.out (by decide))
                    have hfin := hFC2.set (i := 2) (u := .slice zA zN zC) hX2.out (by decide)
                    have hbin := hBC2.set (i := 2) (u := .slice zA zN zC) hX2.out (by decide)
                    have hlin := ow_set (i := 2) (u := .slice zA zN zC) hOl hX2.out (by decide)
                    have hcin := chg_set_old (g := gx) (i := 2) (u := .slice zA zN zC) (own_old (hT.out.chg hCh.out) hO3.out hc2.out) (by omega)
                    rw [List.take_length] at hfin hB2
                    have hbl := blk_lt (blk_set hX2.out 2 (.slice zA zN zC))
                    refine ⟨k + 1, zN, zC, zA, Z ++ [(⟨(lA, lN, lC)⟩, rs)], vt, vo, by go_num, by omega, ⟨blk_setne hP2 (by omega)⟩, ⟨blk_setne hR2 (by omega)⟩, ⟨blk_set hX2.out 2 (.slice zA zN zC)⟩, ⟨?_⟩, ⟨?_⟩, ⟨?_⟩, ⟨?_⟩, ⟨hcin⟩, hbl⟩
                    · rw [List.map_append]; exact ow_set hO4 hX2.out (by decide)
                    · rw [hstep.out]
                      exact pair_snoc (R := fun (z : RB × List RF) (x : QB) => Ow kRF 54 _ w.heap.size z.1.frames z.2 ∧ FC _ w.heap.size z.2 x.frames) hbin ⟨hlin.mono (by omega), by unfold numB; exact hfin⟩
                    · exact BA.step (w := wo) (xs := L1) (k := L1.length) hBA.out (by rw [List.take_length]; exact hBCo.out) (fun b hb => hO.out.2 b hb)
                    · rw [hstep.out]; unfold numB; exact hB2.set hX2.out (by decide)
            · obtain rfl : k = s.fibers.length := by omega
              rw [List.take_length] at hBC hBk
              clear hk hlt
              go_wp2
              clear p2
              go_loopw [11] (fun i wr => CanR5 w tA oA bA tc oc bc s va vb gx v3N v3C v3A Z i wr) (fun i _ => s.objs.length - (intOf i).toNat)
              case atStart => exact ⟨0, 0, 0, none, [], vt, vo, rfl, rfl, Nat.zero_le _, hP, hR, hX, ⟨Ow.nil _ _ _ _⟩, ⟨rfl, fun k z x h => by simp at h⟩, hO3, hBC, hBk, hCh, hgx2⟩
              case round =>
                clear hP hR hX hO3 hBC hBk hCh hgx2
                obtain ⟨k, v2N, v2C, v2A, ros2, vt, ⟨yA, yN, yC⟩, rfl, hIl, hIk, hP, hR, hX, hO2, hOC, hO3, hBC, hBk, hCh, hgx2⟩ := hrel
                have hBok : Aside0 (BkOk s (iterO s (startQ s).2 k).2) := ⟨iterO_ok (startQ_ok s) k⟩
                have hstep : Aside0 (iterO s (startQ s).2 (k + 1) = stepO s (iterO s (startQ s).2 k)) := ⟨rfl⟩
                have hend : Aside0 ((iterO s (startQ s).2 k).2.os.length = k → endQ s = iterO s (startQ s).2 k) := ⟨fun h => endQ_of hIl h⟩
                generalize iterO s (startQ s).2 k = a at hIl hIk hOC hBk hBok hstep hend
                obtain ⟨L2, B⟩ := a
                simp only at hIl hIk hOC hBk hBok hend
                obtain rfl : yN = B.os.length := (hBk.out.ro.len).1.trans (by rw [List.length_map])
                have hno2 : B.os.length ≤ s.objs.length := nodup_lt hBok.out.no hBok.out.lo
                have p8 : wr.cell? ⟨w.heap.size + 1 + 1, 8, none⟩ = some (.slice yA B.os.length yC) := blk_cell hBk.out.q 8
                have hk0 : (0 : Int) ≤ k := by omega
                by_cases hlt : k < B.os.length
                · obtain ⟨m, hm⟩ : ∃ m, B.os[k]? = some m := ⟨_, List.getElem?_eq_getElem hlt⟩
                  have hmo : m < s.objs.length := hBok.out.lo m (List.mem_of_getElem? hm)
                  obtain ⟨ox, hox⟩ : ∃ ox, s.objs[m]? = some ox := ⟨_, List.getElem?_eq_getElem hmo⟩
                  have hst := Aside0.mk (stepO_at (a := (L2, B)) (by simp only [hIl]; exact hm) hox)
                  obtain ⟨ad, y, e1, e2, q0⟩ := i64_at hBk.out.ro.toC k (by simpa using hlt)
                  simp only at e1
                  subst e1
                  rw [List.getElem?_map, hm] at e2
                  injection e2 with e2
                  subst e2
                  have hv := hVA.out.below (w' := wr) (hCh.out.below (fun _ _ h => h))
                  obtain ⟨od, r, e1, e2, x0, x1, x2, x3, x4, x5⟩ := atRO hv.os m hmo
                  subst e1
                  have hro := Aside0.mk (hVA.out.ro m r ox e2 hox)
                  have hxl := Aside0.mk (hS.out.oi ox (List.mem_of_getElem? hox))
                  have hxi := Aside0.mk (hBd.out.it ox (List.mem_of_getElem? hox))
                  have hxk := Aside0.mk (hBd.out.ky ox (List.mem_of_getElem? hox))
                  have p1 : wr.cell? ⟨w.heap.size, 1, none⟩ = some (.slice (some od) s.objs.length oc) := blk_cell hP.out 1
                  have hwd : Aside0 (Chg (fun _ => False) wr wr.drew) := ⟨(Chg.refl (fun _ => False) wr).drew⟩
                  have hk1 : (k : Int) < B.os.length := by omega
                  have hm0 : (0 : Int) ≤ m := by omega
                  have hm1 : (m : Int) < s.objs.length := by omega
                  have hmA := Aside0.mk hm
                  clear hm e2 hox hv hend
                  go_upto_region 25 with (fail)
                  (try simp only [Act.put, List.setIfInBounds_toArray, List.set_cons_zero, List.set_cons_succ])
                  refine start_ (n := 15) (S := fun w' => w'.cell? ⟨w.heap.size, 1, none⟩ = some (.slice (some od) s.objs.length oc) ∧ w'.cell? ⟨w.heap.size + 1 + 1, 8, none⟩ = some (.slice (some ad) B.os.length yC) ∧ w'.cell? (ad.add k) = some (.int .i64 (m : Int)) ∧ w'.cell? (od.add (m * 6)) = some (.int .i64 r.kind) ∧ w'.cell? ⟨(od.add (m * 6)).block, (od.add (m * 6)).off + 1, none⟩ = some (.slice r.items.1 r.items.2.1 r.items.2.2) ∧ w'.cell? ⟨(od.add (m * 6)).block, (od.add (m * 6)).off + 2, none⟩ = some (.slice r.keys.1 r.keys.2.1 r.keys.2.2) ∧ w'.cell? ⟨(od.add (m * 6)).block, (od.add (m * 6)).off + 3, none⟩ = some (.int .i64 r.fn) ∧ w'.cell? ⟨(od.add (m * 6)).block, (od.add (m * 6)).off + 4, none⟩ = some (.int .i64 r.cap) ∧ w'.cell? ⟨(od.add (m * 6)).block, (od.add (m * 6)).off + 5, none⟩ = some (.bool r.shut)) (ds := [12, 14]) #[false, false, false, false, false, false, false, false, false, false, false, false, false, false, false] (by kernel_rfl) rfl rfl ⟨p1, p8, q0, x0, x1, x2, x3, x4, x5⟩ (fun hHeld => ?_)
                  refine pure_ (i := 0) (N := some 110) (v := ?_) (a' := ?_) #[true, false, false, false, false, false, false, false, false, false, false, false, false, false, false] rfl rfl (by kernel_rfl) (fun _ _ _ h => h) (Or.inl ⟨by rfl, ?_⟩) ?_ ?_
                  rotate_left
                  · intro w'
                    go_simp
                    with_reducible rfl
                  rotate_left
                  · simp only [Act.put, List.setIfInBounds_toArray, List.set_cons_zero, List.set_cons_succ, i64_w, i32_w]
                    rfl
                  refine pure_ (i := 1) (N := some 111) (v := ?_) (a' := ?_) #[true, true, false, false, false, false, false, false, false, false, false, false, false, false, false] rfl rfl (by kernel_rfl) (fun _ _ _ h => h) (Or.inl ⟨by rfl, ?_⟩) ?_ ?_
                  rotate_left
                  · intro w'
                    go_simp
                    with_reducible rfl
                  rotate_left
                  · simp only [Act.put, List.setIfInBounds_toArray, List.set_cons_zero, List.set_cons_succ, i64_w, i32_w]
                    rfl
                  refine pure_ (i := 3) (N := some 113) (v := ?_) (a' := ?_) #[true, true, false, true, false, false, false, false, false, false, false, false, false, false, false] rfl rfl (by kernel_rfl) (fun _ _ _ h => h) (Or.inl ⟨by rfl, ?_⟩) ?_ ?_
                  rotate_left
                  · intro w'
                    go_simp
                    with_reducible rfl
                  rotate_left
                  · simp only [Act.put, List.setIfInBounds_toArray, List.set_cons_zero, List.set_cons_succ, i64_w, i32_w]
                    rfl
                  refine pure_ (i := 4) (N := some 114) (v := ?_) (a' := ?_) #[true, true, false, true, true, false, false, false, false, false, false, false, false, false, false] rfl rfl (by kernel_rfl) (fun _ _ _ h => h) (Or.inl ⟨by rfl, ?_⟩) ?_ ?_
                  rotate_left
                  · intro w'
                    go_simp
                    with_reducible rfl
                  rotate_left
                  · simp only [Act.put, List.setIfInBounds_toArray, List.set_cons_zero, List.set_cons_succ, i64_w, i32_w]
                    rfl
                  refine pure_ (i := 5) (N := some 115) (v := ?_) (a' := ?_) #[true, true, false, true, true, true, false, false, false, false, false, false, false, false, false] rfl rfl (by kernel_rfl) (fun _ _ _ h => h) (Or.inl ⟨by rfl, ?_⟩) ?_ ?_
                  rotate_left
                  · intro w'
                    go_simp
                    with_reducible rfl
                  rotate_left
                  · simp only [Act.put, List.setIfInBounds_toArray, List.set_cons_zero, List.set_cons_succ, i64_w, i32_w]
                    rfl
                  refine pure_ (i := 7) (N := some 117) (v := ?_) (a' := ?_) #[true, true, false, true, true, true, false, true, false, false, false, false, false, false, false] rfl rfl (by kernel_rfl) (fun _ _ _ h => h) (Or.inl ⟨by rfl, ?_⟩) ?_ ?_
                  rotate_left
                  · intro w'
                    go_simp
                    with_reducible rfl
                  rotate_left
                  · simp only [Act.put, List.setIfInBounds_toArray, List.set_cons_zero, List.set_cons_succ, i64_w, i32_w]
                    rfl
                  refine take_ (i := 2) (N := some 112) (v := ?_) (a' := ?_) #[true, true, true, true, true, true, false, true, false, false, false, false, false, false, false] rfl rfl (by kernel_rfl) (fun _ _ _ h => h) (Or.inl ⟨by rfl, ?_⟩) hHeld ?_ ?_
                  rotate_left
                  · rintro w' ⟨s0, s1, s2, s3, s4, s5, s6, s7, s8⟩
                    go_simp
                    with_reducible rfl
                  rotate_left
                  · simp only [Act.put, List.setIfInBounds_toArray, List.set_cons_zero, List.set_cons_succ, i64_w, i32_w]
                    rfl
                  refine take_ (i := 6) (N := some 116) (v := ?_) (a' := ?_) #[true, true, true, true, true, true, true, true, false, false, false, false, false, false, false] rfl rfl (by kernel_rfl) (fun _ _ _ h => h) (Or.inl ⟨by rfl, ?_⟩) hHeld ?_ ?_
                  rotate_left
                  · rintro w' ⟨s0, s1, s2, s3, s4, s5, s6, s7, s8⟩
                    go_simp
                    with_reducible rfl
                  rotate_left
                  · simp only [Act.put, List.setIfInBounds_toArray, List.set_cons_zero, List.set_cons_succ, i64_w, i32_w]
                    rfl
                  refine pure_ (i := 8) (N := some 118) (v := ?_) (a' := ?_) #[true, true, true, true, true, true, true, true, true, false, false, false, false, false, false] rfl rfl (by kernel_rfl) (fun _ _ _ h => h) (Or.inl ⟨by rfl, ?_⟩) ?_ ?_
                  rotate_left
                  · intro w'
                    go_simp
                    with_reducible rfl
                  rotate_left
                  · simp only [Act.put, List.setIfInBounds_toArray, List.set_cons_zero, List.set_cons_succ, i64_w, i32_w]
                    rfl
                  refine take_ (i := 9) (N := some 119) (v := ?_) (a' := ?_) #[true, true, true, true, true, true, true, true, true, true, false, false, false, false, false] rfl rfl (by kernel_rfl) (fun _ _ _ h => h) (Or.inl ⟨by rfl, ?_⟩) hHeld ?_ ?_
                  rotate_left
                  · rintro w' ⟨s0, s1, s2, s3, s4, s5, s6, s7, s8⟩
                    go_simp
                    with_reducible rfl
                  rotate_left
                  · simp only [Act.put, List.setIfInBounds_toArray, List.set_cons_zero, List.set_cons_succ, i64_w, i32_w]
                    rfl
                  refine pure_ (i := 10) (N := some 120) (v := ?_) (a' := ?_) #[true, true, true, true, true, true, true, true, true, true, true, false, false, false, false] rfl rfl (by kernel_rfl) (fun _ _ _ h => h) (Or.inl ⟨by rfl, ?_⟩) ?_ ?_
                  rotate_left
                  · intro w'
                    go_simp
                    with_reducible rfl
                  rotate_left
                  · simp only [Act.put, List.setIfInBounds_toArray, List.set_cons_zero, List.set_cons_succ, i64_w, i32_w]
                    rfl
                  refine take_ (i := 11) (N := some 121) (v := ?_) (a' := ?_) #[true, true, true, true, true, true, true, true, true, true, true, true, false, false, false] rfl rfl (by kernel_rfl) (fun _ _ _ h => h) (Or.inl ⟨by rfl, ?_⟩) hHeld ?_ ?_
                  rotate_left
                  · rintro w' ⟨s0, s1, s2, s3, s4, s5, s6, s7, s8⟩
                    go_simp
                    with_reducible rfl
                  rotate_left
                  · simp only [Act.put, List.setIfInBounds_toArray, List.set_cons_zero, List.set_cons_succ, i64_w, i32_w]
                    rfl
                  refine join_ (σ := Nat × SV × SV × SV × SV) 1 #[true, true, true, true, true, true, true, true, true, true, true, true, true, true, false] (fun s0 => [(122, .agg #[.int .i64 (numO s B ox).1.kind, .slice s0.2.2.2.1.1 s0.2.2.2.1.2.1 s0.2.2.2.1.2.2, .slice s0.2.2.2.2.1 s0.2.2.2.2.2.1 s0.2.2.2.2.2.2, .int .i64 (numO s B ox).1.fn, .int .i64 (numO s B ox).1.cap, .bool (numO s B ox).1.shut]), (12, .pointer (some ⟨s0.1, 0, none⟩))]) (fun s0 w' => Turn wr w' w.heap.size [3, 114] ∧ w'.heap[s0.1]? = some (.cells #[.int .i64 0, .slice none 0 0, .slice none 0 0, .int .i64 0, .int .i64 0, .bool false] 59) ∧ wr.heap.size ≤ s0.1 ∧ BkR w' w.heap.size (w.heap.size + 1 + 1) tA (some od) bA tc oc bc s (numO s B ox).2 s0.2.1 s0.2.2.1 va vb ∧ Ow kQV 56 w' w.heap.size s0.2.2.2.1 (numO s B ox).1.items ∧ Ow (Kd.int .i64) 2 w' w.heap.size s0.2.2.2.2 (numO s B ox).1.keys) ?_ ?_
                  rotate_left
                  · intro hCont
                    refine twoL_ (i := 12) (j := 13) (Ni := some 122) (Nj := some 12) #[true, true, true, true, true, true, true, true, true, true, true, true, true, false, false] #[true, true, true, true, true, true, true, true, true, true, true, true, false, true, false] rfl rfl rfl rfl (by kernel_rfl) (by decide) (by decide) (fun K hK => ?_) (fun K hK => ?_)
                    · refine goes_ Try.func57 (by kernel_rfl) rfl #[.pointer (some ⟨w.heap.size + 1 + 1, 0, none⟩), .agg (cellsRO r).toArray] (by rfl) rfl rfl (by simp only [List.map_toArray, List.map_cons, List.map_nil]; rfl) ?_
                      with_reducible refine (book_object w (wr.drew) (w.heap.size + 1 + 1) tA (some od) bA tc oc bc s B vt (some ad, B.os.length, yC) va vb ros rbs L r ox (hCh.out.trans hwd.out (fun _ _ h => h)) (hBk.out.new hwd.out) hBok.out hVA.out hn1 hn2 hro.out hxi.out hxk.out hxl.out.1 hxl.out.2).mono ?_
                      rintro e w1 ⟨vt3, vo3, ⟨iA, iN, iC⟩, ⟨kA, kN, kC⟩, rfl, hB1, hT1, hI1, hK1⟩
                      refine ⟨_, rfl, ?_⟩
                      refine hK.out _ _ ?_
                      clear hK K
                      refine norm_ (a' := ?_) ?_ ?_
                      rotate_left
                      · show Act.put _ (some 122) _ = _
                        simp only [Act.put, List.setIfInBounds_toArray, List.set_cons_zero, List.set_cons_succ, i64_w, i32_w]
                        rfl
                      refine oneI_ (i := 13) (N := some 12) #[true, true, true, true, true, true, true, true, true, true, true, true, true, true, false] rfl rfl (by kernel_rfl) (fun K hK => ?_)
                      refine value_ (w1 := ?_) (v := ?_) (by rfl) rfl ?_ ?_
                      rotate_left 2
                      · go_simp
                        constructor
                        · rfl
                        · rfl
                      refine hK.out _ _ (fun hS => ⟨cellQ hS.1 _, cellQ hS.2.1 _, cellQ hS.2.2.1 _, cellQ hS.2.2.2.1 _, cellQ hS.2.2.2.2.1 _, cellQ hS.2.2.2.2.2.1 _, cellQ hS.2.2.2.2.2.2.1 _, cellQ hS.2.2.2.2.2.2.2.1 _, cellQ hS.2.2.2.2.2.2.2.2 _⟩) ?_
                      clear hK K
                      refine norm_ (a' := ?_) ?_ ?_
                      rotate_left
                      · show Act.put _ (some 12) _ = _
                        simp only [Act.put, List.setIfInBounds_toArray, List.set_cons_zero, List.set_cons_succ, i64_w, i32_w]
                        rfl
                      have hzA : Aside0 (Chg (fun _ => False) w1 (w1.alloc (.cells #[.int .i64 0, .slice none 0 0, .slice none 0 0, .int .i64 0, .int .i64 0, .bool false] 59))) := ⟨(Chg.refl (fun _ => False) w1).alloc _⟩
                      exact norm_ (by first | (simp only [putAll, Act.put, List.setIfInBounds_toArray, List.set_cons_zero, List.set_cons_succ]; done) | (simp only [putAll, Act.put, List.setIfInBounds_toArray, List.set_cons_zero, List.set_cons_succ]; rfl)) (hCont (w1.heap.size, vt3, vo3, (iA, iN, iC), (kA, kN, kC)) _ ⟨(Turn.new_then hwd.out hT1).then_new hzA.out, heap_alloc_new w1 _, by have := hT1.size; have := hwd.out.size; omega, hB1.new hzA.out, (hI1.chg hzA.out (fun _ _ h => h)).mono (by have := hCh.out.size; have := hwd.out.size; omega), (hK1.chg hzA.out (fun _ _ h => h)).mono (by have := hCh.out.size; have := hwd.out.size; omega)⟩)
                    · refine value_ (w1 := ?_) (v := ?_) (by rfl) rfl ?_ ?_
                      rotate_left 2
                      · go_simp
                        constructor
                        · rfl
                        · rfl
                      refine hK.out _ _ ⟨cellQ hHeld.1 _, cellQ hHeld.2.1 _, cellQ hHeld.2.2.1 _, cellQ hHeld.2.2.2.1 _, cellQ hHeld.2.2.2.2.1 _, cellQ hHeld.2.2.2.2.2.1 _, cellQ hHeld.2.2.2.2.2.2.1 _, cellQ hHeld.2.2.2.2.2.2.2.1 _, cellQ hHeld.2.2.2.2.2.2.2.2 _⟩ (fun hHeld => ?_)
                      clear hK K
                      refine norm_ (a' := ?_) ?_ ?_
                      rotate_left
                      · show Act.put _ (some 12) _ = _
                        simp only [Act.put, List.setIfInBounds_toArray, List.set_cons_zero, List.set_cons_succ, i64_w, i32_w]
                        rfl
                      generalize hWz : World.drew (World.alloc wr _) = Wz
                      have hzB : Aside0 (Chg (fun _ => False) wr Wz) := ⟨by rw [← hWz]; exact cg⟩
                      have hgB : Aside0 (Wz.heap[wr.heap.size]? = some (.cells #[.int .i64 0, .slice none 0 0, .slice none 0 0, .int .i64 0, .int .i64 0, .bool false] 59)) := ⟨by rw [← hWz]; exact blk_drew (heap_alloc_new wr _)⟩
                      clear hWz
                      refine last_ (i := 12) (N := some 122) #[true, true, true, true, true, true, true, true, true, true, true, true, true, true, false] rfl rfl (by kernel_rfl) (by decide) (fun K hK => ?_)
                      refine goes_ Try.func57 (by kernel_rfl) rfl #[.pointer (some ⟨w.heap.size + 1 + 1, 0, none⟩), .agg (cellsRO r).toArray] (by rfl) rfl rfl (by simp only [List.map_toArray, List.map_cons, List.map_nil]; rfl) ?_
                      with_reducible refine (book_object w (Wz) (w.heap.size + 1 + 1) tA (some od) bA tc oc bc s B vt (some ad, B.os.length, yC) va vb ros rbs L r ox (hCh.out.trans hzB.out (fun _ _ h => h)) (hBk.out.new hzB.out) hBok.out hVA.out hn1 hn2 hro.out hxi.out hxk.out hxl.out.1 hxl.out.2).mono ?_
                      rintro e w1 ⟨vt3, vo3, ⟨iA, iN, iC⟩, ⟨kA, kN, kC⟩, rfl, hB1, hT1, hI1, hK1⟩
                      refine ⟨_, rfl, ?_⟩
                      refine hK.out _ _ ?_
                      clear hK K
                      refine norm_ (a' := ?_) ?_ ?_
                      rotate_left
                      · show Act.put _ (some 122) _ = _
                        simp only [Act.put, List.setIfInBounds_toArray, List.set_cons_zero, List.set_cons_succ, i64_w, i32_w]
                        rfl
                      exact norm_ (by first | (simp only [putAll, Act.put, List.setIfInBounds_toArray, List.set_cons_zero, List.set_cons_succ]; done) | (simp only [putAll, Act.put, List.setIfInBounds_toArray, List.set_cons_zero, List.set_cons_succ]; rfl)) (hCont (wr.heap.size, vt3, vo3, (iA, iN, iC), (kA, kN, kC)) _ ⟨Turn.new_then hzB.out hT1, hT1.blk hgB.out (by decide), Nat.le_refl _, hB1, hI1.mono (by have := hCh.out.size; have := hzB.out.size; omega), hK1.mono (by have := hCh.out.size; have := hzB.out.size; omega)⟩)
                  rintro ⟨gb, vt3, vo3, ⟨iA, iN, iC⟩, ⟨kA, kN, kC⟩⟩ w' ⟨hT1, hgb, hgbl, hB1, hI1, hK1⟩
                  simp only at hT1 hgb hgbl hB1 hI1 hK1
                  refine norm_ (a' := ?_) ?_ ?_
                  rotate_left
                  · simp only [putAll, Act.put, List.setIfInBounds_toArray, List.set_cons_zero, List.set_cons_succ]
                    rfl
                  have y0 : w'.cell? ⟨gb, 0, none⟩ = some (.int .i64 0) := blk_cell hgb 0
                  have y1 : w'.cell? ⟨gb, 1, none⟩ = some (.slice none 0 0) := blk_cell hgb 1
                  have y2 : w'.cell? ⟨gb, 2, none⟩ = some (.slice none 0 0) := blk_cell hgb 2
                  have y3 : w'.cell? ⟨gb, 3, none⟩ = some (.int .i64 0) := blk_cell hgb 3
                  have y4 : w'.cell? ⟨gb, 4, none⟩ = some (.int .i64 0) := blk_cell hgb 4
                  have y5 : w'.cell? ⟨gb, 5, none⟩ = some (.bool false) := blk_cell hgb 5
                  have f0 : w'.frozen? ⟨gb, 0, none⟩ = false := blk_frozen hgb 0
                  have f1 : w'.frozen? ⟨gb, 1, none⟩ = false := blk_frozen hgb 1
                  have f2 : w'.frozen? ⟨gb, 2, none⟩ = false := blk_frozen hgb 2
                  have f3 : w'.frozen? ⟨gb, 3, none⟩ = false := blk_frozen hgb 3
                  have f4 : w'.frozen? ⟨gb, 4, none⟩ = false := blk_frozen hgb 4
                  have f5 : w'.frozen? ⟨gb, 5, none⟩ = false := blk_frozen hgb 5
                  refine last_ (i := 14) (N := none) #[true, true, true, true, true, true, true, true, true, true, true, true, true, true, true] rfl rfl (by kernel_rfl) (by decide) (fun K hK => ?_)
                  refine skip_ (w1 := ?_) (by rfl) rfl ?_ ?_
                  rotate_left
                  · go_simp
                    rfl
                  refine hK.out _ _ ?_
                  clear hK K
                  refine done_ (by kernel_rfl) ?_
                  clear y0 y1 y2 y3 y4 y5 f0 f1 f2 f3 f4 f5
                  go_upto_region 26 with (fail)
                  (try simp only [Act.put, List.setIfInBounds_toArray, List.set_cons_zero, List.set_cons_succ])
                  have hgxb : gx < gb := by omega
                  have hs6 : Chg (fun j => j = gb) w' ((((((w'.setCell ⟨gb, 0, none⟩ (.int .i64 (numO s B ox).1.kind)).setCell ⟨gb, 1, none⟩ (.slice iA iN iC)).setCell ⟨gb, 2, none⟩ (.slice kA kN kC)).setCell ⟨gb, 3, none⟩ (.int .i64 (numO s B ox).1.fn)).setCell ⟨gb, 4, none⟩ (.int .i64 (numO s B ox).1.cap)).setCell ⟨gb, 5, none⟩ (.bool (numO s B ox).1.shut)) := (((((((Chg.refl (fun j => j = gb) w').setCell (p := ⟨gb, 0, none⟩) (fun _ => rfl) _).setCell (p := ⟨gb, 1, none⟩) (fun _ => rfl) _).setCell (p := ⟨gb, 2, none⟩) (fun _ => rfl) _).setCell (p := ⟨gb, 3, none⟩) (fun _ => rfl) _).setCell (p := ⟨gb, 4, none⟩) (fun _ => rfl) _).setCell (p := ⟨gb, 5, none⟩) (fun _ => rfl) _)
                  have hgb6 := (blk_set (blk_set (blk_set (blk_set (blk_set (blk_set hgb 0 (.int .i64 (numO s B ox).1.kind)) 1 (.slice iA iN iC)) 2 (.slice kA kN kC)) 3 (.int .i64 (numO s B ox).1.fn)) 4 (.int .i64 (numO s B ox).1.cap)) 5 (.bool (numO s B ox).1.shut))
                  have hP6 := Aside0.mk (hs6.blk (hT1.blk hP.out (by decide)) (by omega))
                  have hR6 := Aside0.mk (hs6.blk (hT1.blk hR.out (by decide)) (by omega))
                  have hX6 := Aside0.mk (hs6.blk (hT1.blk hX.out (by decide)) (by omega))
                  have hB6 := Aside0.mk (hB1.hit hs6 (fun j cs t hj hc => by have h7 := cells_t hgb (hj ▸ hc); rw [h7]; decide))
                  have hgo : ∀ {α : Type} {kd : Kd α} {e : TypeId} {v : SV} {xs : List α}, Ow kd e wr w.heap.size v xs → ∀ b, (svl v).ownBlock = some b → b = gb → False := fun ho b h1 h2 => by have := ho.lt b h1; omega
                  have hO26 := Aside0.mk ((hO2.out.turn hT1 (by decide)).chg hs6 (hgo hO2.out))
                  have hO36 := Aside0.mk ((hO3.out.turn hT1 (by decide)).chg hs6 (hgo hO3.out))
                  have hI6 := Aside0.mk (hI1.chg hs6 (fun b h1 h2 => ow_blk_ne hI1 (h2 ▸ hgb) (by decide) h1))
                  have hK6 := Aside0.mk (hK1.chg hs6 (fun b h1 h2 => ow_blk_ne hK1 (h2 ▸ hgb) (by decide) h1))
                  have hOC6 := Aside0.mk ((hOC.out.turn hT1).hit hs6 (hits_set hgb (by decide)))
                  have hBC6 := Aside0.mk ((hBC.out.turn hT1).hit hs6 (hits_set hgb (by decide)))
                  have hC6 : Aside0 (Chg (fun _ => False) w _) := ⟨(hT1.chg hCh.out).trans hs6 (fun b hb h => by have h7 := hCh.out.size; omega)⟩
                  generalize hW : ((((((w'.setCell ⟨gb, 0, none⟩ (.int .i64 (numO s B ox).1.kind)).setCell ⟨gb, 1, none⟩ (.slice iA iN iC)).setCell ⟨gb, 2, none⟩ (.slice kA kN kC)).setCell ⟨gb, 3, none⟩ (.int .i64 (numO s B ox).1.fn)).setCell ⟨gb, 4, none⟩ (.int .i64 (numO s B ox).1.cap)).setCell ⟨gb, 5, none⟩ (.bool (numO s B ox).1.shut)) = W6 at hs6 hgb6 hP6 hR6 hX6 hB6 hO26 hO36 hI6 hK6 hOC6 hBC6 hC6 ⊢
                  simp only [List.setIfInBounds_toArray, List.set_cons_zero, List.set_cons_succ] at hgb6
                  replace hgb6 := Aside0.mk hgb6
                  clear hW hs6 hgo hgb hB1 hI1 hK1 hT1 hP hR hX hO2 hO3 hOC hBC hBk hCh p1 p8 q0 x0 x1 x2 x3 x4 x5 hwd
                  have z0 : W6.cell? ⟨gb, 0, none⟩ = some (.int .i64 (numO s B ox).1.kind) := blk_cell hgb6.out 0
                  have z1 : W6.cell? ⟨gb, 1, none⟩ = some (.slice iA iN iC) := blk_cell hgb6.out 1
                  have z2 : W6.cell? ⟨gb, 2, none⟩ = some (.slice kA kN kC) := blk_cell hgb6.out 2
                  have z3 : W6.cell? ⟨gb, 3, none⟩ = some (.int .i64 (numO s B ox).1.fn) := blk_cell hgb6.out 3
                  have z4 : W6.cell? ⟨gb, 4, none⟩ = some (.int .i64 (numO s B ox).1.cap) := blk_cell hgb6.out 4
                  have z5 : W6.cell? ⟨gb, 5, none⟩ = some (.bool (numO s B ox).1.shut) := blk_cell hgb6.out 5
                  have cx1 : W6.cell? ⟨gx, 1, none⟩ = some (.slice v2A v2N v2C) := blk_cell hX6.out 1
                  have hRd := own_new0 hO26.out.1
                  have hCd : Aside0 (Chg (fun b => (svl (v2A, v2N, v2C)).ownBlock = some b) W6 W6) := ⟨Chg.refl _ _⟩
                  have hl : Aside0 ((ros2.length + 1) * 80 ≤ 140737488355328) := ⟨by rw [hOC6.out.1, hIl]; omega⟩
                  have hz6 : Aside0 (Chg (fun _ => False) W6 W6) := ⟨Chg.refl _ _⟩
                  go_wp2_with ((at_builtin; go_must (refine app1H kRO rfl (.tmp 124) (.tmp 126) rfl Try.underlying37 infoRO rfl (by decide) (by decide) (⟨(numO s B ox).1.kind, (iA, iN, iC), (kA, kN, kC), (numO s B ox).1.fn, (numO s B ox).1.cap, (numO s B ox).1.shut⟩ : RO) rfl rfl (by simp) (kRO_M _ _ _ _) hRd hCd hl ?_); go_must (intro v1 w2 hr2 hc2); go_must (obtain ⟨zA, zN, zC, rfl⟩ := R_sl hr2.out); go_must (have hX7 := Aside0.mk (hc2.out.blk hX6.out (fun e => ow_blk_ne hO26.out hX6.out (by decide) e))); go_must (have cx2 := blk_cell hX7.out 1); go_must (have fx2 := blk_frozen hX7.out 1)))
                  go_roundw
                  case measure => first | (simp [intOf]; done) | (simp [intOf]; omega)
                  case rel =>
                    have hO27 := Ow.app (v1 := (zA, zN, zC)) rfl hO26.out hr2.out hC6.out.size
                    have hP7 := hc2.out.blk hP6.out (fun e => ow_blk_ne hO26.out hP6.out (by decide) e)
                    have hR7 := hc2.out.blk hR6.out (fun e => ow_blk_ne hO26.out hR6.out (by decide) e)
                    have hB7 := hB6.out.hit hc2.out (fun j cs t hj hc => by rw [own_type hO26.out hj hc]; decide)
                    have hO37 := hO36.out.chg hc2.out (fun b h1 h2 => Ow.ne hO36.out hO26.out (by decide) b h1 h2)
                    have hI7 := hI6.out.chg hc2.out (fun b h1 h2 => Ow.ne hI6.out hO26.out (by decide) b h1 h2)
                    have hK7 := hK6.out.chg hc2.out (fun b h1 h2 => Ow.ne hK6.out hO26.out (by decide) b h1 h2)
                    have hOC7 := (hOC6.out.hit hc2.out (Hits.own hO26.out (by decide))).set (i := 1) (u := .slice zA zN zC) hX7.out (by decide)
                    have hBC7 := (hBC6.out.hit hc2.out (Hits.own hO26.out (by decide))).set (i := 1) (u := .slice zA zN zC) hX7.out (by decide)
                    have hC7 := chg_set_old (g := gx) (i := 1) (u := .slice zA zN zC) (own_old hC6.out hO26.out hc2.out) (by omega)
                    have hbl := blk_lt (blk_set hX7.out 1 (.slice zA zN zC))
                    have hgr := numO_len s B ox
                    have hE1 := hstep.out.trans hst.out
                    refine ⟨k + 1, zN, zC, zA, ros2 ++ [(⟨(numO s B ox).1.kind, (iA, iN, iC), (kA, kN, kC), (numO s B ox).1.fn, (numO s B ox).1.cap, (numO s B ox).1.shut⟩ : RO)], vt3, vo3, by go_num, ?_, ?_, ⟨blk_setne hP7 (by omega)⟩, ⟨blk_setne hR7 (by omega)⟩, ⟨blk_set hX7.out 1 (.slice zA zN zC)⟩, ⟨ow_set hO27 hX7.out (by decide)⟩, ⟨?_⟩, ⟨ow_set hO37 hX7.out (by decide)⟩, ⟨hBC7⟩, ⟨?_⟩, ⟨hC7⟩, hbl⟩
                    · rw [hE1, List.length_append, hIl]; rfl
                    · rw [hE1]; exact Nat.le_trans hlt hgr
                    · rw [hE1]
                      exact pair_snoc (R := fun (r : RO) (x : QO) => r.kind = x.kind ∧ r.fn = x.fn ∧ r.cap = x.cap ∧ r.shut = x.shut ∧ Ow kQV 56 _ w.heap.size r.items x.items ∧ Ow (Kd.int .i64) 2 _ w.heap.size r.keys x.keys) hOC7 ⟨rfl, rfl, rfl, rfl, ow_set hI7 hX7.out (by decide), ow_set hK7 hX7.out (by decide)⟩
                    · rw [hE1]; exact hB7.set hX7.out (by decide)
                · obtain rfl : k = B.os.length := by omega
                  have hEnd := Aside0.mk (hend.out rfl)
                  clear hend hstep hIk hlt hk0
                  go_wp2
                  clear p8
                  obtain ⟨vt, hvt⟩ : ∃ v, v = vt := ⟨_, rfl⟩
                  subst hvt
                  go_loopw [13] (fun i wr => CanR6 w tA oA bA tc oc bc s va vb vt (yA, B.os.length, yC) gx v2N v2C v3N v3C v2A v3A ros2 L2 B Z i wr) (fun i _ => B.ts.length - (intOf i).toNat)
                  case atStart => exact ⟨0, 0, 0, none, rfl, Nat.zero_le _, hP, hR, hX, ⟨Ow.nil _ _ _ _⟩, hO2, hOC, hO3, hBC, hBk, hCh⟩
                  case round =>
                    clear hP hR hX hO2 hOC hO3 hBC hBk hCh hgx2
                    obtain ⟨k, v1N, v1C, v1A, rfl, hk, hP, hR, hX, hO1, hO2, hOC, hO3, hBC, hBk, hCh⟩ := hrel
                    obtain ⟨tA', tN, tC⟩ := vt
                    obtain rfl : tN = B.ts.length := (hBk.out.rt.len).1.trans (by rw [List.length_map])
                    have hnt : B.ts.length ≤ s.texts.length := nodup_lt hBok.out.nt hBok.out.lt
                    have p7 : wr.cell? ⟨w.heap.size + 1 + 1, 7, none⟩ = some (.slice tA' B.ts.length tC) := blk_cell hBk.out.q 7
                    have hk0 : (0 : Int) ≤ k := by omega
                    by_cases hlt : k < B.ts.length
                    · obtain ⟨m, hm⟩ : ∃ m, B.ts[k]? = some m := ⟨_, List.getElem?_eq_getElem hlt⟩
                      have hmo : m < s.texts.length := hBok.out.lt m (List.mem_of_getElem? hm)
                      obtain ⟨gq, e0⟩ := hBk.out.rt.some (by rw [List.length_map]; omega)
                      subst e0
                      obtain ⟨ad, y, e1, e2, q0⟩ := i64_at hBk.out.rt.toC k (by simpa using hlt)
                      injection e1 with e1
                      subst e1
                      rw [List.getElem?_map, hm] at e2
                      injection e2 with e2
                      subst e2
                      rw [add_plain] at q0
                      obtain ⟨td, tx, e3, e4, x0⟩ := str_at (C_chg hVA.out.ts (hCh.out.below (fun _ _ h => h))) m hmo
                      subst e3
                      have hno4 : Aside0 (¬ (svl (v1A, v1N, v1C)).ownBlock = some (td.add m).block) := ⟨fun e => by
                        obtain ⟨td', tx', e5, e6, x7⟩ := str_at hVA.out.ts m hmo
                        injection e5 with e5
                        subst e5
                        have h1 := World.block_lt_of_cell? w _ x7
                        have h2 := hO1.out.2 _ e
                        omega⟩
                      have hno3 : Aside0 (¬ (svl (v1A, v1N, v1C)).ownBlock = some gq) := ⟨fun e => Ow.ne hO1.out hBk.out.rt (by decide) gq e rfl⟩
                      have hT1 : Aside0 (textsQ s (B.ts.take (k + 1)) = textsQ s (B.ts.take k) ++ [tx]) := ⟨by
                        have h7 : B.ts[k] = m := by rw [List.getElem?_eq_getElem hlt] at hm; exact Option.some.inj hm
                        unfold textsQ
                        rw [List.take_succ_eq_append_getElem hlt, List.map_append, h7]
                        simp [List.getD, e4]⟩
                      have p0 : wr.cell? ⟨w.heap.size, 0, none⟩ = some (.slice (some td) s.texts.length tc) := blk_cell hP.out 0
                      have x1 : wr.cell? ⟨gx, 0, none⟩ = some (.slice v1A v1N v1C) := blk_cell hX.out 0
                      have hk1 : (k : Int) < B.ts.length := by omega
                      have hm0 : (0 : Int) ≤ m := by omega
                      have hm1 : (m : Int) < s.texts.length := by omega
                      have hRd := own_new hO1.out.1
                      have hCd : Aside0 (Chg (fun j => (svl (v1A, v1N, v1C)).ownBlock = some j) wr wr.drew) := ⟨(Chg.refl _ _).drew⟩
                      have hl : Aside0 (((textsQ s (B.ts.take k)).length + 1) * 16 ≤ 140737488355328) := ⟨by unfold textsQ; rw [List.length_map, List.length_take]; omega⟩
                      clear hm e4
                      go_upto_region 30 with (fail)
                      (try simp only [Act.put, List.setIfInBounds_toArray, List.set_cons_zero, List.set_cons_succ])
                      refine start_ (n := 17) (S := fun w' => w'.cell? ⟨gx, 0, none⟩ = some (.slice v1A v1N v1C) ∧ w'.cell? ⟨w.heap.size, 0, none⟩ = some (.slice (some td) s.texts.length tc) ∧ w'.cell? ⟨w.heap.size + 1 + 1, 7, none⟩ = some (.slice (some ⟨gq, 0, none⟩) B.ts.length tC) ∧ w'.cell? ⟨gq, k, none⟩ = some (.int .i64 (m : Int)) ∧ w'.cell? (td.add m) = some (.string tx)) (ds := [16]) #[false, false, false, false, false, false, false, false, false, false, false, false, false, false, false, false, false] (by kernel_rfl) rfl rfl ⟨x1, p0, p7, q0, x0⟩ (fun hHeld => ?_)
                      refine pure_ (i := 0) (N := some 138) (v := ?_) (a' := ?_) #[true, false, false, false, false, false, false, false, false, false, false, false, false, false, false, false, false] rfl rfl (by kernel_rfl) (fun _ _ _ h => h) (Or.inl ⟨by rfl, ?_⟩) ?_ ?_
                      rotate_left
                      · intro w'
                        go_simp
                        with_reducible rfl
                      rotate_left
                      · simp only [Act.put, List.setIfInBounds_toArray, List.set_cons_zero, List.set_cons_succ, i64_w, i32_w]
                        rfl
                      refine pure_ (i := 2) (N := some 140) (v := ?_) (a' := ?_) #[true, false, true, false, false, false, false, false, false, false, false, false, false, false, false, false, false] rfl rfl (by kernel_rfl) (fun _ _ _ h => h) (Or.inl ⟨by rfl, ?_⟩) ?_ ?_
                      rotate_left
                      · intro w'
                        go_simp
                        with_reducible rfl
                      rotate_left
                      · simp only [Act.put, List.setIfInBounds_toArray, List.set_cons_zero, List.set_cons_succ, i64_w, i32_w]
                        rfl
                      refine pure_ (i := 4) (N := some 142) (v := ?_) (a' := ?_) #[true, false, true, false, true, false, false, false, false, false, false, false, false, false, false, false, false] rfl rfl (by kernel_rfl) (fun _ _ _ h => h) (Or.inl ⟨by rfl, ?_⟩) ?_ ?_
                      rotate_left
                      · intro w'
                        go_simp
                        with_reducible rfl
                      rotate_left
                      · simp only [Act.put, List.setIfInBounds_toArray, List.set_cons_zero, List.set_cons_succ, i64_w, i32_w]
                        rfl
                      refine pure_ (i := 5) (N := some 143) (v := ?_) (a' := ?_) #[true, false, true, false, true, true, false, false, false, false, false, false, false, false, false, false, false] rfl rfl (by kernel_rfl) (fun _ _ _ h => h) (Or.inl ⟨by rfl, ?_⟩) ?_ ?_
                      rotate_left
                      · intro w'
                        go_simp
                        with_reducible rfl
                      rotate_left
                      · simp only [Act.put, List.setIfInBounds_toArray, List.set_cons_zero, List.set_cons_succ, i64_w, i32_w]
                        rfl
                      refine pure_ (i := 6) (N := some 144) (v := ?_) (a' := ?_) #[true, false, true, false, true, true, true, false, false, false, false, false, false, false, false, false, false] rfl rfl (by kernel_rfl) (fun _ _ _ h => h) (Or.inl ⟨by rfl, ?_⟩) ?_ ?_
                      rotate_left
                      · intro w'
                        go_simp
                        with_reducible rfl
                      rotate_left
                      · simp only [Act.put, List.setIfInBounds_toArray, List.set_cons_zero, List.set_cons_succ, i64_w, i32_w]
                        rfl
                      refine pure_ (i := 8) (N := some 146) (v := ?_) (a' := ?_) #[true, false, true, false, true, true, true, false, true, false, false, false, false, false, false, false, false] rfl rfl (by kernel_rfl) (fun _ _ _ h => h) (Or.inl ⟨by rfl, ?_⟩) ?_ ?_
                      rotate_left
                      · intro w'
                        go_simp
                        with_reducible rfl
                      rotate_left
                      · simp only [Act.put, List.setIfInBounds_toArray, List.set_cons_zero, List.set_cons_succ, i64_w, i32_w]
                        rfl
                      refine take_ (i := 1) (N := some 139) (v := ?_) (a' := ?_) #[true, true, true, false, true, true, true, false, true, false, false, false, false, false, false, false, false] rfl rfl (by kernel_rfl) (fun _ _ _ h => h) (Or.inl ⟨by rfl, ?_⟩) hHeld ?_ ?_
                      rotate_left
                      · rintro w' ⟨s0, s1, s2, s3, s4⟩
                        go_simp
                        with_reducible rfl
                      rotate_left
                      · simp only [Act.put, List.setIfInBounds_toArray, List.set_cons_zero, List.set_cons_succ, i64_w, i32_w]
                        rfl
                      refine take_ (i := 3) (N := some 141) (v := ?_) (a' := ?_) #[true, true, true, true, true, true, true, false, true, false, false, false, false, false, false, false, false] rfl rfl (by kernel_rfl) (fun _ _ _ h => h) (Or.inl ⟨by rfl, ?_⟩) hHeld ?_ ?_
                      rotate_left
                      · rintro w' ⟨s0, s1, s2, s3, s4⟩
                        go_simp
                        with_reducible rfl
                      rotate_left
                      · simp only [Act.put, List.setIfInBounds_toArray, List.set_cons_zero, List.set_cons_succ, i64_w, i32_w]
                        rfl
                      refine take_ (i := 7) (N := some 145) (v := ?_) (a' := ?_) #[true, true, true, true, true, true, true, true, true, false, false, false, false, false, false, false, false] rfl rfl (by kernel_rfl) (fun _ _ _ h => h) (Or.inl ⟨by rfl, ?_⟩) hHeld ?_ ?_
                      rotate_left
                      · rintro w' ⟨s0, s1, s2, s3, s4⟩
                        go_simp
                        with_reducible rfl
                      rotate_left
                      · simp only [Act.put, List.setIfInBounds_toArray, List.set_cons_zero, List.set_cons_succ, i64_w, i32_w]
                        rfl
                      refine pure_ (i := 9) (N := some 147) (v := ?_) (a' := ?_) #[true, true, true, true, true, true, true, true, true, true, false, false, false, false, false, false, false] rfl rfl (by kernel_rfl) (fun _ _ _ h => h) (Or.inl ⟨by rfl, ?_⟩) ?_ ?_
                      rotate_left
                      · intro w'
                        go_simp
                        with_reducible rfl
                      rotate_left
                      · simp only [Act.put, List.setIfInBounds_toArray, List.set_cons_zero, List.set_cons_succ, i64_w, i32_w]
                        rfl
                      refine take_ (i := 10) (N := some 148) (v := ?_) (a' := ?_) #[true, true, true, true, true, true, true, true, true, true, true, false, false, false, false, false, false] rfl rfl (by kernel_rfl) (fun _ _ _ h => h) (Or.inl ⟨by rfl, ?_⟩) hHeld ?_ ?_
                      rotate_left
                      · rintro w' ⟨s0, s1, s2, s3, s4⟩
                        go_simp
                        with_reducible rfl
                      rotate_left
                      · simp only [Act.put, List.setIfInBounds_toArray, List.set_cons_zero, List.set_cons_succ, i64_w, i32_w]
                        rfl
                      refine pure_ (i := 11) (N := some 149) (v := ?_) (a' := ?_) #[true, true, true, true, true, true, true, true, true, true, true, true, false, false, false, false, false] rfl rfl (by kernel_rfl) (fun _ _ _ h => h) (Or.inl ⟨by rfl, ?_⟩) ?_ ?_
                      rotate_left
                      · intro w'
                        go_simp
                        with_reducible rfl
                      rotate_left
                      · simp only [Act.put, List.setIfInBounds_toArray, List.set_cons_zero, List.set_cons_succ, i64_w, i32_w]
                        rfl
                      refine take_ (i := 12) (N := some 150) (v := ?_) (a' := ?_) #[true, true, true, true, true, true, true, true, true, true, true, true, true, false, false, false, false] rfl rfl (by kernel_rfl) (fun _ _ _ h => h) (Or.inl ⟨by rfl, ?_⟩) hHeld ?_ ?_
                      rotate_left
                      · rintro w' ⟨s0, s1, s2, s3, s4⟩
                        go_simp
                        with_reducible rfl
                      rotate_left
                      · simp only [Act.put, List.setIfInBounds_toArray, List.set_cons_zero, List.set_cons_succ, i64_w, i32_w]
                        rfl
                      refine one_ (i := 13) (N := some 151) #[true, true, true, true, true, true, true, true, true, true, true, true, true, true, false, false, false] rfl rfl (by kernel_rfl) (by decide) (fun K hK => ?_)
                      refine value_ (w1 := ?_) (v := ?_) (by rfl) rfl ?_ ?_
                      rotate_left 2
                      · go_simp
                        constructor
                        · rfl
                        · rfl
                      refine hK.out _ _ ⟨(cellQ hHeld.1 _), (cellQ hHeld.2.1 _), (cellQ hHeld.2.2.1 _), (cellQ hHeld.2.2.2.1 _), (cellQ hHeld.2.2.2.2 _)⟩ (fun hHeld => ?_)
                      clear hK K
                      refine norm_ (a' := ?_) ?_ ?_
                      rotate_left
                      · show Act.put _ (some 151) _ = _
                        simp only [Act.put, List.setIfInBounds_toArray, List.set_cons_zero, List.set_cons_succ, i64_w, i32_w]
                        rfl
                      refine one_ (i := 14) (N := some 152) #[true, true, true, true, true, true, true, true, true, true, true, true, true, true, true, false, false] rfl rfl (by kernel_rfl) (by decide) (fun K hK => ?_)
                      refine app1T Kd.string (by rfl) (.tmp 139) (.tmp 151) (by rfl) Try.underlying36 infoStr rfl (by decide) (by decide) tx (by rfl) (by rfl) rfl hRd hCd hl ?_
                      intro v1 w3 hr3 hc3
                      obtain ⟨zA, zN, zC, rfl⟩ := R_sl hr3.out
                      have hX3 := Aside0.mk (hc3.out.blk hX.out (fun e => ow_blk_ne hO1.out hX.out (by decide) e))
                      have x1z := blk_cell hX3.out 0
                      have fz := blk_frozen hX3.out 0
                      refine hK.out _ _ ⟨x1z, (cell_keepQ hc3.out (fun e => ow_blk_ne hO1.out hP.out (by decide) e) p0), (cell_keepQ hc3.out (fun e => ow_blk_ne hO1.out hBk.out.q (by decide) e) p7), (cell_keepQ hc3.out (fun e => hno3.out e) q0), (cell_keepQ hc3.out (fun e => hno4.out e) x0)⟩ (fun hHeld => ?_)
                      clear hK K
                      refine norm_ (a' := ?_) ?_ ?_
                      rotate_left
                      · show Act.put _ (some 152) _ = _
                        simp only [Act.put, List.setIfInBounds_toArray, List.set_cons_zero, List.set_cons_succ, i64_w, i32_w]
                        rfl
                      refine pure_ (i := 15) (N := some 153) (v := ?_) (a' := ?_) #[true, true, true, true, true, true, true, true, true, true, true, true, true, true, true, true, false] rfl rfl (by kernel_rfl) (fun _ _ _ h => h) (Or.inl ⟨by rfl, ?_⟩) ?_ ?_
                      rotate_left
                      · intro w'
                        go_simp
                        with_reducible rfl
                      rotate_left
                      · simp only [Act.put, List.setIfInBounds_toArray, List.set_cons_zero, List.set_cons_succ, i64_w, i32_w]
                        rfl
                      refine last_ (i := 16) (N := none) #[true, true, true, true, true, true, true, true, true, true, true, true, true, true, true, true, true] rfl rfl (by kernel_rfl) (by decide) (fun K hK => ?_)
                      refine skip_ (w1 := ?_) (by rfl) rfl ?_ ?_
                      rotate_left
                      · go_simp
                        rfl
                      refine hK.out _ _ ?_
                      clear hK K
                      refine done_ (by kernel_rfl) ?_
                      go_wp2
                      go_roundw
                      case measure => first | (simp [intOf]; done) | (simp [intOf]; omega)
                      case rel =>
                        have hO4 := Ow.app (v1 := (zA, zN, zC)) rfl hO1.out hr3.out hCh.out.size
                        have hP3 := hc3.out.blk hP.out (fun e => ow_blk_ne hO1.out hP.out (by decide) e)
                        have hR3 := hc3.out.blk hR.out (fun e => ow_blk_ne hO1.out hR.out (by decide) e)
                        have hB3 := hBk.out.hit hc3.out (fun j cs t hj hc => by rw [own_type hO1.out hj hc]; decide)
                        have hO23 := hO2.out.chg hc3.out (fun b h1 h2 => Ow.ne hO2.out hO1.out (by decide) b h1 h2)
                        have hO33 := hO3.out.chg hc3.out (fun b h1 h2 => Ow.ne hO3.out hO1.out (by decide) b h1 h2)
                        have hOC3 := (hOC.out.hit hc3.out (Hits.own hO1.out (by decide))).set (i := 0) (u := .slice zA zN zC) hX3.out (by decide)
                        have hBC3 := (hBC.out.hit hc3.out (Hits.own hO1.out (by decide))).set (i := 0) (u := .slice zA zN zC) hX3.out (by decide)
                        have hC3 := chg_set_old (g := gx) (i := 0) (u := .slice zA zN zC) (own_old hCh.out hO1.out hc3.out) (by omega)
                        exact ⟨k + 1, zN, zC, zA, by go_num, by omega, ⟨blk_setne hP3 (by omega)⟩, ⟨blk_setne hR3 (by omega)⟩, ⟨blk_set hX3.out 0 (.slice zA zN zC)⟩, ⟨by rw [hT1.out]; exact ow_set hO4 hX3.out (by decide)⟩, ⟨ow_set hO23 hX3.out (by decide)⟩, ⟨hOC3⟩, ⟨ow_set hO33 hX3.out (by decide)⟩, ⟨hBC3⟩, ⟨hB3.set hX3.out (by decide)⟩, ⟨hC3⟩⟩
                    · obtain rfl : k = B.ts.length := by omega
                      rw [List.take_length] at hO1
                      clear hk hlt
                      go_upto_region 31 with (fail)
                      (try simp only [Act.put, List.setIfInBounds_toArray, List.set_cons_zero, List.set_cons_succ])
                      clear p7
                      have x0 : wr.cell? ⟨gx, 0, none⟩ = some (.slice v1A v1N v1C) := blk_cell hX.out 0
                      have x1 : wr.cell? ⟨gx, 1, none⟩ = some (.slice v2A v2N v2C) := blk_cell hX.out 1
                      have x2 : wr.cell? ⟨gx, 2, none⟩ = some (.slice v3A v3N v3C) := blk_cell hX.out 2
                      have x3 : wr.cell? ⟨gx, 3, none⟩ = some (.int .i64 s.cur) := blk_cell hX.out 3
                      have x4 : wr.cell? ⟨gx, 4, none⟩ = some (.int .i64 s.steps) := blk_cell hX.out 4
                      have x5 : wr.cell? ⟨gx, 5, none⟩ = some (.int .i64 s.spent) := blk_cell hX.out 5
                      have x6 : wr.cell? ⟨gx, 6, none⟩ = some (.int .i64 s.read) := blk_cell hX.out 6
                      have y0 : wr.cell? ⟨w.heap.size + 1, 0, none⟩ = some (.slice none 0 0) := blk_cell hR.out 0
                      have y1 : wr.cell? ⟨w.heap.size + 1, 1, none⟩ = some (.slice none 0 0) := blk_cell hR.out 1
                      have y2 : wr.cell? ⟨w.heap.size + 1, 2, none⟩ = some (.slice none 0 0) := blk_cell hR.out 2
                      have y3 : wr.cell? ⟨w.heap.size + 1, 3, none⟩ = some (.int .i64 0) := blk_cell hR.out 3
                      have y4 : wr.cell? ⟨w.heap.size + 1, 4, none⟩ = some (.int .i64 0) := blk_cell hR.out 4
                      have y5 : wr.cell? ⟨w.heap.size + 1, 5, none⟩ = some (.int .i64 0) := blk_cell hR.out 5
                      have y6 : wr.cell? ⟨w.heap.size + 1, 6, none⟩ = some (.int .i64 0) := blk_cell hR.out 6
                      have f0 : wr.frozen? ⟨w.heap.size + 1, 0, none⟩ = false := blk_frozen hR.out 0
                      have f1 : wr.frozen? ⟨w.heap.size + 1, 1, none⟩ = false := blk_frozen hR.out 1
                      have f2 : wr.frozen? ⟨w.heap.size + 1, 2, none⟩ = false := blk_frozen hR.out 2
                      have f3 : wr.frozen? ⟨w.heap.size + 1, 3, none⟩ = false := blk_frozen hR.out 3
                      have f4 : wr.frozen? ⟨w.heap.size + 1, 4, none⟩ = false := blk_frozen hR.out 4
                      have f5 : wr.frozen? ⟨w.heap.size + 1, 5, none⟩ = false := blk_frozen hR.out 5
                      have f6 : wr.frozen? ⟨w.heap.size + 1, 6, none⟩ = false := blk_frozen hR.out 6
                      have bf := (blk_set (blk_set (blk_set (blk_set (blk_set (blk_set (blk_set hR.out 0 (.slice v1A v1N v1C)) 1 (.slice v2A v2N v2C)) 2 (.slice v3A v3N v3C)) 3 (.int .i64 s.cur)) 4 (.int .i64 s.steps)) 5 (.int .i64 s.spent)) 6 (.int .i64 s.read))
                      have hs4 : Chg (fun j => j = w.heap.size + 1) wr (((((((wr.setCell ⟨w.heap.size + 1, 0, none⟩ (.slice v1A v1N v1C)).setCell ⟨w.heap.size + 1, 1, none⟩ (.slice v2A v2N v2C)).setCell ⟨w.heap.size + 1, 2, none⟩ (.slice v3A v3N v3C)).setCell ⟨w.heap.size + 1, 3, none⟩ (.int .i64 s.cur)).setCell ⟨w.heap.size + 1, 4, none⟩ (.int .i64 s.steps)).setCell ⟨w.heap.size + 1, 5, none⟩ (.int .i64 s.spent)).setCell ⟨w.heap.size + 1, 6, none⟩ (.int .i64 s.read)) := ((((((((Chg.refl (fun j => j = w.heap.size + 1) wr).setCell (p := ⟨w.heap.size + 1, 0, none⟩) (fun _ => rfl) _).setCell (p := ⟨w.heap.size + 1, 1, none⟩) (fun _ => rfl) _).setCell (p := ⟨w.heap.size + 1, 2, none⟩) (fun _ => rfl) _).setCell (p := ⟨w.heap.size + 1, 3, none⟩) (fun _ => rfl) _).setCell (p := ⟨w.heap.size + 1, 4, none⟩) (fun _ => rfl) _).setCell (p := ⟨w.heap.size + 1, 5, none⟩) (fun _ => rfl) _).setCell (p := ⟨w.heap.size + 1, 6, none⟩) (fun _ => rfl) _)
                      go_wp2
                      refine bodyPost_ret (results_cell_row rfl _ _ _ _ _ _ _ rfl bf Try.underlying40 rfl (by kernel_rfl)) rfl ?_
                      refine ⟨(v1A, v1N, v1C), (v2A, v2N, v2C), (v3A, v3N, v3C), ros2, Z, rfl, ⟨?_, ow_set7 hO2.out hs4 hR.out (by decide), ow_set7 hO3.out hs4 hR.out (by decide), ?_, hBC.out.hit hs4 (hits_set hR.out (by decide)), hBA.out⟩, hCh.out.trans hs4 (fun b hb h => by omega)⟩
                      · have h7 := ow_set7 hO1.out hs4 hR.out (by decide)
                        unfold CanonQ
                        rw [hEnd.out]
                        exact h7
                      · unfold CanonQ
                        rw [hEnd.out]
                        exact hOC.out.hit hs4 (hits_set hR.out (by decide))
end Go.Proofs.Ytdoghjmanogelaa.K
