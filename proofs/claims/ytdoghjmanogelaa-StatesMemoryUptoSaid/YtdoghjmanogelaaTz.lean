import Derived.Test.YtdoghjmanogelaaSm
import Derived.Test.YtdoghjmanogelaaSh
import Derived.IntWalk
import Derived.BigQuiet
import Derived.Deep.RegionHeld3
namespace Go.Proofs.Ytdoghjmanogelaa.K
open Go.RowKit Go.Proofs.YtdoghjmanogelaaW.PrintWords Go.Proofs.YtdoghjmanogelaaW.PrintLast Go.Proofs.YtdoghjmanogelaaW.PrintMore
set_option linter.unusedVariables false
set_option linter.unusedSimpArgs false
def mapS {σ α β : Type} (f : σ → α → β × σ) (b : σ) (l : List α) : List β × σ := l.foldl (fun a v => (a.1 ++ [(f a.2 v).1], (f a.2 v).2)) ([], b)
theorem mapS_snoc {σ α β : Type} (f : σ → α → β × σ) (b : σ) (l : List α) (v : α) : mapS f b (l ++ [v]) = ((mapS f b l).1 ++ [(f (mapS f b l).2 v).1], (f (mapS f b l).2 v).2) := by
  simp [mapS, List.foldl_append]
theorem mapS_take {σ α β : Type} {f : σ → α → β × σ} {b : σ} {l : List α} {k : Nat} {v : α} (h : l[k]? = some v) : mapS f b (l.take (k + 1)) = ((mapS f b (l.take k)).1 ++ [(f (mapS f b (l.take k)).2 v).1], (f (mapS f b (l.take k)).2 v).2) := by
  have hk := (List.getElem?_eq_some_iff.1 h).1
  rw [List.take_succ_eq_append_getElem hk, mapS_snoc]
  have : l[k] = v := by rw [List.getElem?_eq_getElem hk] at h; exact Option.some.inj h
  rw [this]
theorem mapS_len {σ α β : Type} (f : σ → α → β × σ) (l : List α) : ∀ b, (mapS f b l).1.length = l.length := by
  have : ∀ (a : List β × σ), (l.foldl (fun a v => (a.1 ++ [(f a.2 v).1], (f a.2 v).2)) a).1.length = a.1.length + l.length := by
    induction l with
    | nil => intro a; rfl
    | cons x l ih => intro a; rw [List.foldl_cons, ih]; simp; omega
  intro b
  rw [mapS, this]
  simp
theorem mapS_inv {σ α β : Type} {f : σ → α → β × σ} {P : σ → Prop} (hf : ∀ b v, P b → P (f b v).2) (l : List α) : ∀ b, P b → P (mapS f b l).2 := by
  have : ∀ (a : List β × σ), P a.2 → P (l.foldl (fun a v => (a.1 ++ [(f a.2 v).1], (f a.2 v).2)) a).2 := by
    induction l with
    | nil => intro a h; exact h
    | cons x l ih => intro a h; rw [List.foldl_cons]; exact ih _ (hf _ _ h)
  exact fun b h => this ([], b) h
structure Bk where
  ts : List Nat
  os : List Nat
def metN (l : List Nat) (k : Nat) : Nat × List Nat := if k ∈ l then (l.idxOf k, l) else (l.length, l ++ [k])
def numT (s : QS) (b : Bk) (n : Int) : Int × Bk := if 0 ≤ n ∧ n < s.texts.length then (((metN b.ts n.toNat).1 : Int), ⟨(metN b.ts n.toNat).2, b.os⟩) else (n, b)
def numV (s : QS) (b : Bk) (v : QV) : QV × Bk :=
  if v.kind = 4 then (⟨v.kind, (numT s b v.n).1⟩, (numT s b v.n).2)
  else if namesQ s.objs v.kind v.n = true then (⟨v.kind, ((metN b.os v.n.toNat).1 : Int)⟩, ⟨b.ts, (metN b.os v.n.toNat).2⟩)
  else (v, b)
def numF (s : QS) (b : Bk) (f : QFr) : QFr × Bk := (⟨f.fn, f.pc, (mapS (numV s) b f.slots).1⟩, (mapS (numV s) b f.slots).2)
def numB (s : QS) (b : Bk) (x : QB) : QB × Bk := (⟨(mapS (numF s) b x.frames).1⟩, (mapS (numF s) b x.frames).2)
def fieldS (s : QS) (keys : List Int) (items : List QV) (a : (List Int × List QV) × Bk) (i : Nat) : (List Int × List QV) × Bk :=
  let a1 : (List Int × List QV) × Bk := match keys[i]? with
    | none => a
    | some k => ((a.1.1 ++ [(numT s a.2 k).1], a.1.2), (numT s a.2 k).2)
  match items[i]? with
  | none => a1
  | some v => ((a1.1.1, a1.1.2 ++ [(numV s a1.2 v).1]), (numV s a1.2 v).2)
def fieldsS (s : QS) (b : Bk) (keys : List Int) (items : List QV) (n : Nat) : (List Int × List QV) × Bk := (List.range n).foldl (fieldS s keys items) (([], []), b)
theorem fieldsS_succ (s : QS) (b : Bk) (keys : List Int) (items : List QV) (n : Nat) : fieldsS s b keys items (n + 1) = fieldS s keys items (fieldsS s b keys items n) n := by
  simp [fieldsS, List.range_succ]
def numO (s : QS) (b : Bk) (o : QO) : QO × Bk :=
  if o.kind ≠ 7 then (⟨o.kind, (mapS (numV s) b o.items).1, o.keys, o.fn, o.cap, o.shut⟩, (mapS (numV s) b o.items).2)
  else
    let r := fieldsS s b o.keys o.items (max o.keys.length o.items.length)
    (⟨o.kind, r.1.2, r.1.1, o.fn, o.cap, o.shut⟩, r.2)
def stepO (s : QS) (a : List QO × Bk) : List QO × Bk := match a.2.os[a.1.length]? with
  | none => a
  | some k => match s.objs[k]? with
    | none => a
    | some o => (a.1 ++ [(numO s a.2 o).1], (numO s a.2 o).2)
def iterO (s : QS) (b : Bk) : Nat → List QO × Bk
  | 0 => ([], b)
  | n + 1 => stepO s (iterO s b n)
def startQ (s : QS) : List QB × Bk := mapS (numB s) ⟨[], []⟩ s.fibers
def endQ (s : QS) : List QO × Bk := iterO s (startQ s).2 s.objs.length
def textsQ (s : QS) (ts : List Nat) : List ByteArray := ts.map (fun k => s.texts.getD k ByteArray.empty)
def CanonQ (s : QS) : QS := ⟨textsQ s (endQ s).2.ts, (endQ s).1, (startQ s).1, s.cur, s.steps, s.spent, s.read⟩
structure BkOk (s : QS) (b : Bk) : Prop where
  nt : b.ts.Nodup
  no : b.os.Nodup
  lt : ∀ k ∈ b.ts, k < s.texts.length
  lo : ∀ k ∈ b.os, k < s.objs.length
theorem metN_ok {l : List Nat} {k m : Nat} (h : l.Nodup) (hl : ∀ j ∈ l, j < m) (hk : k < m) : (metN l k).2.Nodup ∧ ∀ j ∈ (metN l k).2, j < m := by
  unfold metN
  split
  · exact ⟨h, hl⟩
  · rename_i hn
    refine ⟨?_, fun j hj => ?_⟩
    · simp only [List.nodup_append, List.nodup_cons, List.not_mem_nil, not_false_eq_true, List.nodup_nil, and_true, List.mem_singleton]
      exact ⟨h, trivial, fun a ha b hb e => hn (by rw [← hb, ← e]; exact ha)⟩
    · rcases List.mem_append.1 hj with h1 | h1
      · exact hl j h1
      · rw [List.mem_singleton.1 h1]; exact hk
theorem numT_ok {s : QS} {b : Bk} {n : Int} (h : BkOk s b) : BkOk s (numT s b n).2 := by
  unfold numT
  split
  · rename_i hn
    have := metN_ok h.nt h.lt (k := n.toNat) (by omega)
    exact ⟨this.1, h.no, this.2, h.lo⟩
  · exact h
theorem namesQ_at' {ob : List QO} {k n : Int} (h : namesQ ob k n = true) : ∃ (m : Nat) (x : QO), n = m ∧ ob[m]? = some x := by
  unfold namesQ at h
  simp only [Bool.and_eq_true, decide_eq_true_eq] at h
  obtain ⟨⟨_, h3⟩, h4⟩ := h
  refine ⟨n.toNat, ?_⟩
  cases hx : ob[n.toNat]? with
  | none => rw [hx] at h4; cases h4
  | some x => exact ⟨x, by omega, rfl⟩
theorem numV_ok {s : QS} {b : Bk} {v : QV} (h : BkOk s b) : BkOk s (numV s b v).2 := by
  unfold numV
  split
  · exact numT_ok h
  · split
    · rename_i hn
      obtain ⟨m, x, e, hx⟩ := namesQ_at' hn
      have := metN_ok h.no h.lo (k := v.n.toNat) (by have := (List.getElem?_eq_some_iff.1 hx).1; omega)
      exact ⟨h.nt, this.1, h.lt, this.2⟩
    · exact h
theorem numF_ok {s : QS} {b : Bk} {f : QFr} (h : BkOk s b) : BkOk s (numF s b f).2 := mapS_inv (P := BkOk s) (fun b v h => numV_ok h) _ b h
theorem numB_ok {s : QS} {b : Bk} {x : QB} (h : BkOk s b) : BkOk s (numB s b x).2 := mapS_inv (P := BkOk s) (fun b v h => numF_ok h) _ b h
theorem fieldS_ok {s : QS} {keys : List Int} {items : List QV} {a : (List Int × List QV) × Bk} {i : Nat} (h : BkOk s a.2) : BkOk s (fieldS s keys items a i).2 := by
  unfold fieldS
  cases keys[i]? with
  | none => cases items[i]? with
    | none => exact h
    | some v => exact numV_ok h
  | some k => cases items[i]? with
    | none => exact numT_ok h
    | some v => exact numV_ok (numT_ok h)
theorem fieldsS_ok {s : QS} {b : Bk} {keys : List Int} {items : List QV} (h : BkOk s b) : ∀ n, BkOk s (fieldsS s b keys items n).2
  | 0 => h
  | n + 1 => by rw [fieldsS_succ]; exact fieldS_ok (fieldsS_ok h n)
theorem numO_ok {s : QS} {b : Bk} {o : QO} (h : BkOk s b) : BkOk s (numO s b o).2 := by
  unfold numO
  split
  · exact mapS_inv (P := BkOk s) (fun b v h => numV_ok h) _ b h
  · exact fieldsS_ok h _
theorem stepO_ok {s : QS} {a : List QO × Bk} (h : BkOk s a.2) : BkOk s (stepO s a).2 := by
  unfold stepO
  split
  · exact h
  · split
    · exact h
    · exact numO_ok h
theorem iterO_ok {s : QS} {b : Bk} (h : BkOk s b) : ∀ n, BkOk s (iterO s b n).2
  | 0 => h
  | n + 1 => stepO_ok (iterO_ok h n)
theorem startQ_ok (s : QS) : BkOk s (startQ s).2 := mapS_inv (P := BkOk s) (fun b v h => numB_ok h) _ _ ⟨List.nodup_nil, List.nodup_nil, fun k h => (by cases h), fun k h => (by cases h)⟩
theorem iterO_end {s : QS} {b : Bk} {n : Nat} (h : (iterO s b n).2.os[(iterO s b n).1.length]? = none) : ∀ m, n ≤ m → iterO s b m = iterO s b n := by
  intro m hm
  induction m with
  | zero => obtain rfl : n = 0 := by omega
            rfl
  | succ m ih =>
    rcases Nat.lt_or_ge m n with h1 | h1
    · obtain rfl : n = m + 1 := by omega
      rfl
    · have := ih h1
      show stepO s (iterO s b m) = _
      rw [this]
      unfold stepO
      rw [h]
theorem nodup_lt : ∀ {n : Nat} {l : List Nat}, l.Nodup → (∀ k ∈ l, k < n) → l.length ≤ n
  | 0, l, _, hl => by
    cases l with
    | nil => exact Nat.le_refl _
    | cons a l => exact absurd (hl a (List.mem_cons_self)) (Nat.not_lt_zero _)
  | n + 1, l, h, hl => by
    by_cases hn : n ∈ l
    · have h1 := nodup_lt (n := n) (h.erase n) (fun k hk => by
        have h2 := hl k (List.mem_of_mem_erase hk)
        have h3 : k ≠ n := fun e => by subst e; exact h.not_mem_erase hk
        omega)
      rw [List.length_erase_of_mem hn] at h1
      omega
    · have h1 := nodup_lt (n := n) h (fun k hk => by
        have h2 := hl k hk
        have h3 : k ≠ n := fun e => hn (e ▸ hk)
        omega)
      omega
theorem endQ_of {s : QS} {n : Nat} (hl : (iterO s (startQ s).2 n).1.length = n) (h : (iterO s (startQ s).2 n).2.os.length = n) : endQ s = iterO s (startQ s).2 n := by
  have hk := iterO_ok (startQ_ok s) n
  have hn : n ≤ s.objs.length := by have := nodup_lt hk.no hk.lo; omega
  exact iterO_end (by rw [hl]; exact List.getElem?_eq_none_iff.2 (by omega)) _ hn
end Go.Proofs.Ytdoghjmanogelaa.K

namespace Go.Proofs.Ytdoghjmanogelaa.K
open Go.RowKit Go.Proofs.YtdoghjmanogelaaW.PrintWords Go.Proofs.YtdoghjmanogelaaW.PrintLast Go.Proofs.YtdoghjmanogelaaW.PrintMore
set_option linter.unusedVariables false
set_option linter.unusedSimpArgs false
set_option maxRecDepth 100000
def atL (n : Nat) (l : List Nat) : List Int := (List.range n).map (fun k => if k ∈ l then (l.idxOf k : Int) else -1)
theorem atL_len (n : Nat) (l : List Nat) : (atL n l).length = n := by simp [atL]
theorem atL_at {n k : Nat} {l : List Nat} (hk : k < n) : (atL n l)[k]? = some (if k ∈ l then (l.idxOf k : Int) else -1) := by
  simp [atL, List.getElem?_range hk]
theorem atL_snoc {n k : Nat} {l : List Nat} (hk : k < n) (hn : k ∉ l) : atL n (l ++ [k]) = (atL n l).set k (l.length : Int) := by
  apply List.ext_getElem?
  intro j
  rcases Nat.lt_or_ge j n with hj | hj
  · rw [atL_at hj]
    by_cases e : k = j
    · subst e
      rw [List.getElem?_set_self (by rw [atL_len]; exact hk), if_pos (by simp), List.idxOf_append, if_neg hn]
      simp
    · rw [List.getElem?_set_ne e, atL_at hj]
      have h1 : (j ∈ l ++ [k]) ↔ j ∈ l := by simp; intro h; exact absurd h.symm e
      by_cases h2 : j ∈ l
      · rw [if_pos (h1.2 h2), if_pos h2, List.idxOf_append, if_pos h2]
      · rw [if_neg (fun h => h2 (h1.1 h)), if_neg h2]
  · rw [List.getElem?_eq_none (by rw [atL_len]; omega), List.getElem?_eq_none (by rw [List.length_set, atL_len]; omega)]
def Turn (w w' : World) (lo : Nat) (ts : List TypeId) : Prop := ∃ S : Nat → Prop, Chg S w w' ∧ (∀ b, S b → lo ≤ b) ∧ ∀ b cs t, S b → w.heap[b]? = some (.cells cs t (0, 0)) → t ∈ ts
theorem Turn.refl (w : World) (lo : Nat) (ts : List TypeId) : Turn w w lo ts := ⟨fun _ => False, Chg.refl _ _, fun _ h => h.elim, fun _ _ _ h => h.elim⟩
theorem Turn.of_new {w w' : World} {lo : Nat} {ts : List TypeId} (h : Chg (fun _ => False) w w') : Turn w w' lo ts := ⟨_, h, fun _ h => h.elim, fun _ _ _ h => h.elim⟩
theorem Turn.hits {w : World} {lo' : Nat} {ts ts' : List TypeId} {S : Nat → Prop} (h : ∀ b cs t, S b → w.heap[b]? = some (.cells cs t (0, 0)) → t ∈ ts) (hd : ∀ t ∈ ts', t ∉ ts) : Hits w lo' S ts' := fun b cs t hb _ hc hm => hd t hm (h b cs t hb hc)
theorem Ow.turn {α : Type} {kd : Kd α} {e : TypeId} {w w' : World} {lo lo' : Nat} {v : SV} {xs : List α} {ts : List TypeId} (h : Ow kd e w lo v xs) (ht : Turn w w' lo' ts) (he : e ∉ ts) : Ow kd e w' lo v xs := by
  obtain ⟨S, hc, _, hS⟩ := ht
  exact h.hit hc (Turn.hits hS (ts' := [e]) (fun t hm => by rw [List.mem_singleton.1 hm]; exact he)) (List.mem_singleton_self _)
theorem Turn.old {w w' : World} {lo : Nat} {ts : List TypeId} (h : Turn w w' lo ts) : ∀ b, b < lo → b < w.heap.size → w'.heap[b]? = w.heap[b]? := by
  obtain ⟨S, hc, hl, _⟩ := h
  exact fun b hb hs => hc.block b hs (fun hS => by have := hl b hS; omega)
theorem Turn.chg {w0 w w' : World} {ts : List TypeId} (h0 : Chg (fun _ => False) w0 w) (h : Turn w w' w0.heap.size ts) : Chg (fun _ => False) w0 w' := by
  obtain ⟨S, hc, hl, _⟩ := h
  exact h0.trans hc (fun b hb hS => by have := hl b hS; omega)
theorem Turn.mono {w w' : World} {lo : Nat} {ts ts' : List TypeId} (h : Turn w w' lo ts) (hs : ∀ t ∈ ts, t ∈ ts') : Turn w w' lo ts' := by
  obtain ⟨S, hc, hl, hS⟩ := h
  exact ⟨S, hc, hl, fun b cs t hb he => hs t (hS b cs t hb he)⟩
theorem Turn.then_new {w w1 w' : World} {lo : Nat} {ts : List TypeId} (h : Turn w w1 lo ts) (h1 : Chg (fun _ => False) w1 w') : Turn w w' lo ts := by
  obtain ⟨S, hc, hl, hS⟩ := h
  exact ⟨S, hc.trans h1 (fun _ _ h => h.elim), hl, hS⟩
theorem Turn.new_then {w w1 w' : World} {lo : Nat} {ts : List TypeId} (h : Chg (fun _ => False) w w1) (h1 : Turn w1 w' lo ts) : Turn w w' lo ts := by
  obtain ⟨S, hc, hl, hS⟩ := h1
  exact ⟨fun b => S b ∧ b < w.heap.size, (h.mono (fun _ _ h => h.elim)).trans hc (fun b hb hSb => ⟨hSb, hb⟩), fun b hb => hl b hb.1, fun b cs t hb he => hS b cs t hb.1 (by rw [h.block b hb.2 (fun h => h)]; exact he)⟩
theorem Turn.blk {w w' : World} {lo g : Nat} {ts : List TypeId} {cs : Array Value} {t : TypeId} (h : Turn w w' lo ts) (hb : w.heap[g]? = some (.cells cs t (0, 0))) (ht : t ∉ ts) : w'.heap[g]? = some (.cells cs t (0, 0)) := by
  obtain ⟨S, hc, _, hS⟩ := h
  exact hc.blk hb (fun hg => ht (hS g cs t hg hb))
theorem Turn.size {w w' : World} {lo : Nat} {ts : List TypeId} (h : Turn w w' lo ts) : w.heap.size ≤ w'.heap.size := by
  obtain ⟨S, hc, _⟩ := h
  exact hc.size
def apart (u v : SV) : Prop := ∀ k, (svl u).ownBlock = some k → (svl v).ownBlock = some k → False
structure BkR (w : World) (lo g : Nat) (tA oA bA : Option Addr) (tc oc bc : Nat) (s : QS) (b : Bk) (vt vo va vb : SV) : Prop where
  q : w.heap[g]? = some (.cells #[.slice tA s.texts.length tc, .slice oA s.objs.length oc, .slice bA s.fibers.length bc, .int .i64 s.cur, .int .i64 s.steps, .int .i64 s.spent, .int .i64 s.read, .slice vt.1 vt.2.1 vt.2.2, .slice vo.1 vo.2.1 vo.2.2, .slice va.1 va.2.1 va.2.2, .slice vb.1 vb.2.1 vb.2.2] 114)
  lg : lo ≤ g
  rt : Ow (Kd.int .i64) 3 w lo vt (b.ts.map (fun k : Nat => (k : Int)))
  ro : Ow (Kd.int .i64) 3 w lo vo (b.os.map (fun k : Nat => (k : Int)))
  ra : Ow (Kd.int .i64) 3 w lo va (atL s.texts.length b.ts)
  rb : Ow (Kd.int .i64) 3 w lo vb (atL s.objs.length b.os)
  pto : apart vt vo
  pta : apart vt va
  ptb : apart vt vb
  poa : apart vo va
  pob : apart vo vb
  pab : apart va vb
theorem BkR.new {w w' : World} {lo g : Nat} {tA oA bA : Option Addr} {tc oc bc : Nat} {s : QS} {b : Bk} {vt vo va vb : SV} (h : BkR w lo g tA oA bA tc oc bc s b vt vo va vb) (hc : Chg (fun _ => False) w w') : BkR w' lo g tA oA bA tc oc bc s b vt vo va vb :=
  ⟨hc.blk h.q (fun h => h), h.lg, h.rt.chg hc (fun _ _ h => h), h.ro.chg hc (fun _ _ h => h), h.ra.chg hc (fun _ _ h => h), h.rb.chg hc (fun _ _ h => h), h.pto, h.pta, h.ptb, h.poa, h.pob, h.pab⟩
theorem ref_NamesText (w : World) (m n : Int) : Calls Try.prog 99 #[.int .i64 m, .int .i64 n] w fun e w' => e = .returned (.bool (decide (0 ≤ n) && decide (n < m))) ∧ w' = w := by
  by_cases h0 : 0 ≤ n
  · have d0 : decide (0 ≤ n) = true := by simpa using h0
    have hE : Aside0 ((decide (0 ≤ n) && decide (n < m)) = decide (n < m)) := ⟨by rw [d0]; rfl⟩
    go_enter Try.func99, Try.ntmps99
    go_wp2
    go_ret
    exact ⟨by first | (rw [hE.out]; done) | (rw [hE.out]; simp; done) | (simp; done) | (simp; omega), rfl⟩
  · have d0 : decide (0 ≤ n) = false := by simpa using h0
    have hE : Aside0 ((decide (0 ≤ n) && decide (n < m)) = false) := ⟨by rw [d0]; rfl⟩
    go_enter Try.func99, Try.ntmps99
    go_wp2
    go_ret
    exact ⟨by first | (rw [hE.out]; done) | (rw [hE.out]; simp; done) | (simp; done) | (simp; omega), rfl⟩
end Go.Proofs.Ytdoghjmanogelaa.K

namespace Go.Proofs.Ytdoghjmanogelaa.K
open Go.RowKit Go.Proofs.YtdoghjmanogelaaW.PrintWords Go.Proofs.YtdoghjmanogelaaW.PrintLast Go.Proofs.YtdoghjmanogelaaW.PrintMore
set_option linter.unusedVariables false
set_option linter.unusedSimpArgs false
set_option maxRecDepth 100000
theorem infoInt : (Try.prog.info? 3).map (fun i => (i.zero, i.size, i.bytes)) = some (some (.int .i64 0), 1, 8) := by kernel_rfl
def TextPost (w : World) (lo g : Nat) (tA oA bA : Option Addr) (tc oc bc : Nat) (s : QS) (r : Int × Bk) (vo va vb : SV) (e : Ending) (w' : World) : Prop := ∃ vt : SV, e = .returned (.int .i64 r.1) ∧ BkR w' lo g tA oA bA tc oc bc s r.2 vt vo va vb ∧ Turn w w' lo [3, 114]
set_option maxHeartbeats 4000000
theorem book_text (w : World) (lo g : Nat) (tA oA bA : Option Addr) (tc oc bc : Nat) (s : QS) (b : Bk) (vt vo va vb : SV) (n : Int) (h : BkR w lo g tA oA bA tc oc bc s b vt vo va vb) (hok : BkOk s b) (hn : s.texts.length ≤ 1048576) (hnn : n ≤ 9223372036854775807) :
    Calls Try.prog 86 #[.pointer (some ⟨g, 0, none⟩), .int .i64 n] w (TextPost w lo g tA oA bA tc oc bc s (numT s b n) vo va vb) := by
  have hB := Aside0.mk h
  have q0 : w.cell? ⟨g, 0, none⟩ = some (.slice tA s.texts.length tc) := blk_cell h.q 0
  by_cases hin : 0 ≤ n ∧ n < s.texts.length
  · obtain ⟨k, rfl⟩ : ∃ k : Nat, n = k := ⟨n.toNat, by omega⟩
    have hkt : k < s.texts.length := by omega
    have hd : (decide (0 ≤ (k : Int)) && decide ((k : Int) < s.texts.length)) = true := by
      rw [Bool.and_eq_true, decide_eq_true_eq, decide_eq_true_eq]
      exact hin
    have hat := atL_at (l := b.ts) hkt
    have hlen := atL_len s.texts.length b.ts
    obtain ⟨xA, xN, xC⟩ := va
    obtain ⟨gx, e1⟩ := h.ra.some (by rw [hlen]; omega)
    subst e1
    obtain rfl : xN = s.texts.length := (h.ra.len).1.trans hlen
    have q9 : w.cell? ⟨g, 9, none⟩ = some (.slice (some ⟨gx, 0, none⟩) s.texts.length xC) := blk_cell h.q 9
    have hcell : ∀ x, (atL s.texts.length b.ts)[k]? = some x → w.cell? ⟨gx, k, none⟩ = some (.int .i64 x) := fun x hx => by
      obtain ⟨ad, y, e2, e3, x0⟩ := i64_at h.ra.toC k hkt
      injection e2 with e2
      subst e2
      rw [hx] at e3
      injection e3 with e3
      subst e3
      rw [add_plain] at x0
      exact x0
    have hk0 : (0 : Int) ≤ k := by omega
    have hk1 : (k : Int) < s.texts.length := by omega
    by_cases hmem : k ∈ b.ts
    · rw [if_pos hmem] at hat
      have hE : Aside0 (numT s b k = ((b.ts.idxOf k : Int), b)) := ⟨by unfold numT metN; rw [if_pos hin, Int.toNat_natCast, if_pos hmem]⟩
      have x0 := hcell _ hat
      have hx1 : (0 : Int) ≤ (b.ts.idxOf k : Int) := by omega
      have hx2 : ¬ ((b.ts.idxOf k : Int) < 0) := by omega
      clear hat hcell hmem hin h hlen
      go_enter Try.func86, Try.ntmps86
      go_wp2_with ((go_at_call 99; go_must (refine (ref_NamesText _ _ _).mono ?_); go_must (rintro e w1 ⟨rfl, hw⟩); go_must (obtain rfl : w = w1 := hw.symm)))
      go_ret
      exact ⟨vt, by first | (rw [hE.out]; done) | (rw [hE.out]; rfl) | (rw [hE.out]; simp), by rw [hE.out]; exact hB.out, Turn.refl _ _ _⟩
    · rw [if_neg hmem] at hat
      have x0 := hcell _ hat
      have hE : Aside0 (numT s b k = ((b.ts.length : Int), ⟨b.ts ++ [k], b.os⟩)) := ⟨by unfold numT metN; rw [if_pos hin, Int.toNat_natCast, if_neg hmem]⟩
      obtain ⟨yA, yN, yC⟩ := vt
      obtain rfl : yN = b.ts.length := (h.rt.len).1.trans (by rw [List.length_map])
      have q7 : w.cell? ⟨g, 7, none⟩ = some (.slice yA b.ts.length yC) := blk_cell h.q 7
      obtain ⟨cu, hcu⟩ := Kd.R_typed h.ra.1 gx rfl
      have hgx : Aside0 (g ≠ gx) := ⟨fun e => by subst e; rw [h.q] at hcu; injection hcu with hcu; injection hcu with _ hcu; exact absurd hcu (by decide)⟩
      have fz := blk_frozen hcu k
      have hmA := Aside0.mk hmem
      have hatA := Aside0.mk hat
      have hkA := Aside0.mk hkt
      have htl : b.ts.length ≤ 1048576 := Nat.le_trans (nodup_lt hok.nt hok.lt) hn
      clear hat hcell hmem hin h hlen hcu
      go_enter Try.func86, Try.ntmps86
      go_upto_region 4 with ((go_at_call 99; go_must (refine (ref_NamesText _ _ _).mono ?_); go_must (rintro e w1 ⟨rfl, hw⟩); go_must (obtain rfl : w = w1 := hw.symm)))
      (try simp only [Act.put, List.setIfInBounds_toArray, List.set_cons_zero, List.set_cons_succ])
      refine start_ (n := 12) (S := fun w' => w'.cell? ⟨g, 9, none⟩ = some (.slice (some ⟨gx, 0, none⟩) s.texts.length xC) ∧ w'.cell? ⟨g, 7, none⟩ = some (.slice yA b.ts.length yC)) (ds := [11]) #[false, false, false, false, false, false, false, false, false, false, false, false] (by kernel_rfl) rfl rfl ⟨q9, q7⟩ (fun hHeld => ?_)
      refine pure_ (i := 0) (N := some 23) (v := ?_) (a' := ?_) #[true, false, false, false, false, false, false, false, false, false, false, false] rfl rfl (by kernel_rfl) (fun _ _ _ h => h) (Or.inl ⟨by rfl, ?_⟩) ?_ ?_
      rotate_left
      · intro w'
        go_simp
        with_reducible rfl
      rotate_left
      · simp only [Act.put, List.setIfInBounds_toArray, List.set_cons_zero, List.set_cons_succ, i64_w, i32_w]
        rfl
      refine pure_ (i := 1) (N := some 24) (v := ?_) (a' := ?_) #[true, true, false, false, false, false, false, false, false, false, false, false] rfl rfl (by kernel_rfl) (fun _ _ _ h => h) (Or.inl ⟨by rfl, ?_⟩) ?_ ?_
      rotate_left
      · intro w'
        go_simp
        with_reducible rfl
      rotate_left
      · simp only [Act.put, List.setIfInBounds_toArray, List.set_cons_zero, List.set_cons_succ, i64_w, i32_w]
        rfl
      refine pure_ (i := 2) (N := some 25) (v := ?_) (a' := ?_) #[true, true, true, false, false, false, false, false, false, false, false, false] rfl rfl (by kernel_rfl) (fun _ _ _ h => h) (Or.inl ⟨by rfl, ?_⟩) ?_ ?_
      rotate_left
      · intro w'
        go_simp
        with_reducible rfl
      rotate_left
      · simp only [Act.put, List.setIfInBounds_toArray, List.set_cons_zero, List.set_cons_succ, i64_w, i32_w]
        rfl
      refine pure_ (i := 4) (N := some 27) (v := ?_) (a' := ?_) #[true, true, true, false, true, false, false, false, false, false, false, false] rfl rfl (by kernel_rfl) (fun _ _ _ h => h) (Or.inl ⟨by rfl, ?_⟩) ?_ ?_
      rotate_left
      · intro w'
        go_simp
        with_reducible rfl
      rotate_left
      · simp only [Act.put, List.setIfInBounds_toArray, List.set_cons_zero, List.set_cons_succ, i64_w, i32_w]
        rfl
      refine pure_ (i := 5) (N := some 28) (v := ?_) (a' := ?_) #[true, true, true, false, true, true, false, false, false, false, false, false] rfl rfl (by kernel_rfl) (fun _ _ _ h => h) (Or.inl ⟨by rfl, ?_⟩) ?_ ?_
      rotate_left
      · intro w'
        go_simp
        with_reducible rfl
      rotate_left
      · simp only [Act.put, List.setIfInBounds_toArray, List.set_cons_zero, List.set_cons_succ, i64_w, i32_w]
        rfl
      refine pure_ (i := 6) (N := some 29) (v := ?_) (a' := ?_) #[true, true, true, false, true, true, true, false, false, false, false, false] rfl rfl (by kernel_rfl) (fun _ _ _ h => h) (Or.inl ⟨by rfl, ?_⟩) ?_ ?_
      rotate_left
      · intro w'
        go_simp
        with_reducible rfl
      rotate_left
      · simp only [Act.put, List.setIfInBounds_toArray, List.set_cons_zero, List.set_cons_succ, i64_w, i32_w]
        rfl
      refine pure_ (i := 7) (N := some 30) (v := ?_) (a' := ?_) #[true, true, true, false, true, true, true, true, false, false, false, false] rfl rfl (by kernel_rfl) (fun _ _ _ h => h) (Or.inl ⟨by rfl, ?_⟩) ?_ ?_
      rotate_left
      · intro w'
        go_simp
        with_reducible rfl
      rotate_left
      · simp only [Act.put, List.setIfInBounds_toArray, List.set_cons_zero, List.set_cons_succ, i64_w, i32_w]
        rfl
      refine take_ (i := 3) (N := some 26) (v := ?_) (a' := ?_) #[true, true, true, true, true, true, true, true, false, false, false, false] rfl rfl (by kernel_rfl) (fun _ _ _ h => h) (Or.inl ⟨by rfl, ?_⟩) hHeld ?_ ?_
      rotate_left
      · rintro w' ⟨s0, s1⟩
        go_simp
        with_reducible rfl
      rotate_left
      · simp only [Act.put, List.setIfInBounds_toArray, List.set_cons_zero, List.set_cons_succ, i64_w, i32_w]
        rfl
      refine take_ (i := 8) (N := some 31) (v := ?_) (a' := ?_) #[true, true, true, true, true, true, true, true, true, false, false, false] rfl rfl (by kernel_rfl) (fun _ _ _ h => h) (Or.inl ⟨by rfl, ?_⟩) hHeld ?_ ?_
      rotate_left
      · rintro w' ⟨s0, s1⟩
        go_simp
        with_reducible rfl
      rotate_left
      · simp only [Act.put, List.setIfInBounds_toArray, List.set_cons_zero, List.set_cons_succ, i64_w, i32_w]
        rfl
      refine pure_ (i := 9) (N := some 32) (v := ?_) (a' := ?_) #[true, true, true, true, true, true, true, true, true, true, false, false] rfl rfl (by kernel_rfl) (fun _ _ _ h => h) (Or.inl ⟨by rfl, ?_⟩) ?_ ?_
      rotate_left
      · intro w'
        go_simp
        with_reducible rfl
      rotate_left
      · simp only [Act.put, List.setIfInBounds_toArray, List.set_cons_zero, List.set_cons_succ, i64_w, i32_w]
        rfl
      refine pure_ (i := 10) (N := some 33) (v := ?_) (a' := ?_) #[true, true, true, true, true, true, true, true, true, true, true, false] rfl rfl (by kernel_rfl) (fun _ _ _ h => h) (Or.inl ⟨by rfl, ?_⟩) ?_ ?_
      rotate_left
      · intro w'
        go_simp
        with_reducible rfl
      rotate_left
      · simp only [Act.put, List.setIfInBounds_toArray, List.set_cons_zero, List.set_cons_succ, i64_w, i32_w]
        rfl
      refine last_ (i := 11) (N := none) #[true, true, true, true, true, true, true, true, true, true, true, true] rfl rfl (by kernel_rfl) (by decide) (fun K hK => ?_)
      refine skip_ (w1 := ?_) (by rfl) rfl ?_ ?_
      rotate_left
      · go_simp
        rfl
      refine hK.out _ _ ?_
      clear hK K
      refine done_ (by kernel_rfl) ?_
      have hs1 : Chg (fun b => (svl (some ⟨gx, 0, none⟩, s.texts.length, xC)).ownBlock = some b) w ((w.setCell ⟨gx, k, none⟩ (.int .i64 (b.ts.length : Int))).drew) := (Chg.setCell (Chg.refl (fun b => (svl (some ⟨gx, 0, none⟩, s.texts.length, xC)).ownBlock = some b) w) (p := ⟨gx, k, none⟩) (fun _ => rfl) _).drew
      have hput := Ow.put (kd := Kd.int .i64) (cells := fun x : Int => [.int .i64 x]) (j := 0) (m := 1) (u := .int .i64 (b.ts.length : Int)) (r' := (b.ts.length : Int)) (fun _ _ _ => Iff.rfl) (fun _ _ _ _ => rfl) rfl hB.out.ra hatA.out rfl (by decide)
      rw [Nat.mul_one, Nat.add_zero, ← atL_snoc hkA.out hmA.out] at hput
      replace hput := Ow.chg hput (Chg.drew (Chg.refl (fun _ => False) _)) (fun _ _ h => h)
      generalize hW1 : World.drew _ = W1 at hs1 hput ⊢
      clear hW1
      have hq1 := Aside0.mk (hs1.blk hB.out.q (fun e => hgx.out (Option.some.inj (show some gx = some g from e)).symm))
      have ht1 := hB.out.rt.chg hs1 (fun b h1 h2 => hB.out.pta b h1 h2)
      have ho1 := Aside0.mk (hB.out.ro.chg hs1 (fun b h1 h2 => hB.out.poa b h1 h2))
      have hb1 := Aside0.mk (hB.out.rb.chg hs1 (fun b h1 h2 => hB.out.pab b h2 h1))
      have hRd := own_new0 ht1.1
      have hCd : Aside0 (Chg (fun j => (svl (yA, b.ts.length, yC)).ownBlock = some j) W1 W1) := ⟨Chg.refl _ _⟩
      replace hput := Aside0.mk hput
      replace ht1 := Aside0.mk ht1
      replace hs1 := Aside0.mk hs1
      have q7 : W1.cell? ⟨g, 7, none⟩ = some (.slice yA b.ts.length yC) := blk_cell hq1.out 7
      have hl : Aside0 (((b.ts.map (fun k : Nat => (k : Int))).length + 1) * 8 ≤ 140737488355328) := ⟨by rw [List.length_map]; omega⟩
      clear q0 q9 x0 fz
      go_upto_region 6 with ((at_builtin; go_must (refine app1 (Kd.int .i64) rfl (.tmp 38) (.tmp 40) rfl Try.underlying97 infoInt rfl (by decide) (by decide) (k : Int) rfl rfl rfl hRd hCd hl ?_); go_must (intro v1 w3 hr3 hc3); go_must (obtain ⟨zA, zN, zC, rfl⟩ := R_sl hr3.out); go_must (have hgt := hB.out.q); go_must (have hq3 := Aside0.mk (hc3.out.blk hq1.out (fun e => (by obtain ⟨cu, ec⟩ := Kd.R_typed ht1.out.1 g e; rw [hq1.out] at ec; injection ec with ec; injection ec with _ ec; exact absurd ec (by decide))))); go_must (have q7 := blk_cell hq3.out 7); go_must (have fz7 := blk_frozen hq3.out 7); go_must (clear hgt)))
      (try simp only [Act.put, List.setIfInBounds_toArray, List.set_cons_zero, List.set_cons_succ])
      have hs4 : Chg (fun j => j = g) w3 (w3.setCell ⟨g, 7, none⟩ (.slice zA zN zC)) := (Chg.refl (fun j => j = g) w3).setCell (p := ⟨g, 7, none⟩) (fun _ => rfl) _
      have hq4 := blk_set hq3.out 7 (.slice zA zN zC)
      generalize hW4 : World.setCell w3 _ _ = W4 at hs4 hq4 ⊢
      clear hW4 q7 fz7
      have hlo1 : lo ≤ W1.heap.size := by have h1 := blk_lt hq1.out; have h2 := hB.out.lg; omega
      have hrt := Ow.app (v1 := (zA, zN, zC)) rfl ht1.out hr3.out hlo1
      have hmm : (b.ts.map (fun k : Nat => (k : Int))) ++ [(k : Int)] = ((b.ts ++ [k]).map (fun k : Nat => (k : Int))) := by simp
      rw [hmm] at hrt
      have hapt : ∀ {v : SV} {xs : List Int}, Ow (Kd.int .i64) 3 W1 lo v xs → apart (yA, b.ts.length, yC) v → apart (zA, zN, zC) v := fun ho ha j h1 h2 => by
        rcases hr3.out.1 j h1 with h3 | h3
        · exact ha j h3 h2
        · have := ho.lt j h2
          omega
      have hfar : ∀ {v : SV} {xs : List Int}, Ow (Kd.int .i64) 3 w3 lo v xs → ∀ j, (svl v).ownBlock = some j → j = g → False := fun ho j h1 h2 => by
        subst h2
        obtain ⟨cu, ec⟩ := Kd.R_typed ho.1 j h1
        rw [hq3.out] at ec
        injection ec with ec
        injection ec with _ ec
        exact absurd ec (by decide)
      have hro3 := ho1.out.chg hc3.out (fun j h1 h2 => hB.out.pto j h2 h1)
      have hra3 := hput.out.chg hc3.out (fun j h1 h2 => hB.out.pta j h2 h1)
      have hrb3 := hb1.out.chg hc3.out (fun j h1 h2 => hB.out.ptb j h2 h1)
      have hBn : Aside0 (BkR W4 lo g tA oA bA tc oc bc s ⟨b.ts ++ [k], b.os⟩ (zA, zN, zC) vo (some ⟨gx, 0, none⟩, s.texts.length, xC) vb) := ⟨⟨hq4, hB.out.lg, hrt.chg hs4 (hfar hrt), hro3.chg hs4 (hfar hro3), hra3.chg hs4 (hfar hra3), hrb3.chg hs4 (hfar hrb3), hapt ho1.out hB.out.pto, hapt hput.out hB.out.pta, hapt hb1.out hB.out.ptb, hB.out.poa, hB.out.pob, hB.out.pab⟩⟩
      have hTn : Aside0 (Turn w W4 lo [3, 114]) := ⟨⟨fun j => ((svl (some ⟨gx, 0, none⟩, s.texts.length, xC)).ownBlock = some j ∨ (svl (yA, b.ts.length, yC)).ownBlock = some j) ∨ j = g, ((hs1.out.mono (fun _ _ h => Or.inl (Or.inl h))).trans hc3.out (fun _ _ h => Or.inl (Or.inr h))).trans hs4 (fun _ _ h => Or.inr h), fun j hj => by
        rcases hj with (h1 | h1) | h1
        · exact hB.out.ra.2 j h1
        · exact hB.out.rt.2 j h1
        · rw [h1]; exact hB.out.lg, fun j cs t hj hc => by
        rcases hj with (h1 | h1) | h1
        · obtain ⟨cu, ec⟩ := Kd.R_typed hB.out.ra.1 j h1
          rw [hc] at ec
          injection ec with ec
          injection ec with _ ec
          rw [ec]; simp
        · obtain ⟨cu, ec⟩ := Kd.R_typed hB.out.rt.1 j h1
          rw [hc] at ec
          injection ec with ec
          injection ec with _ ec
          rw [ec]; simp
        · rw [h1, hB.out.q] at hc
          injection hc with hc
          injection hc with _ hc
          rw [← hc]; simp⟩⟩
      have q9 : W4.cell? ⟨g, 9, none⟩ = some (.slice (some ⟨gx, 0, none⟩) s.texts.length xC) := blk_cell hBn.out.q 9
      obtain ⟨ad, y, e2, e3, x0⟩ := i64_at hBn.out.ra.toC k hkA.out
      injection e2 with e2
      subst e2
      rw [atL_at hkA.out, if_pos (by simp), List.idxOf_append, if_neg hmA.out] at e3
      injection e3 with e3
      rw [add_plain, ← e3] at x0
      simp only [List.idxOf_cons_self, Nat.add_zero, Nat.zero_add] at x0
      clear e3 hrt hmm hapt hfar hro3 hra3 hrb3 hs4 hq4
      go_wp2
      go_ret
      exact ⟨(zA, zN, zC), by first | (rw [hE.out]; done) | (rw [hE.out]; rfl) | (rw [hE.out]; simp), by rw [hE.out]; exact hBn.out, hTn.out⟩
  · have hE : Aside0 (numT s b n = (n, b)) := ⟨by unfold numT; rw [if_neg hin]⟩
    have hd : (decide (0 ≤ n) && decide (n < s.texts.length)) = false := by
      rw [Bool.and_eq_false_iff, decide_eq_false_iff_not, decide_eq_false_iff_not]
      omega
    clear hin h
    go_enter Try.func86, Try.ntmps86
    go_wp2_with ((go_at_call 99; go_must (refine (ref_NamesText _ _ _).mono ?_); go_must (rintro e w1 ⟨rfl, hw⟩); go_must (obtain rfl : w = w1 := hw.symm)))
    go_ret
    exact ⟨vt, by first | (rw [hE.out]; done) | (rw [hE.out]; rfl) | (rw [hE.out]; simp), by rw [hE.out]; exact hB.out, Turn.refl _ _ _⟩
end Go.Proofs.Ytdoghjmanogelaa.K
