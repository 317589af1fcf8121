import Derived.Test.YtdoghjmanogelaaTz
import Derived.Test.YtdoghjmanogelaaSh
import Derived.Test.YtdoghjmanogelaaTf
import Derived.IntWalk
import Derived.BigQuiet
import Derived.Deep.RegionHeld3
import Derived.Maps.OwnSet
namespace Go.Proofs.Ytdoghjmanogelaa.K
open Go.Maps Go.RowKit Go.Proofs.YtdoghjmanogelaaW.PrintWords Go.Proofs.YtdoghjmanogelaaW.PrintLast Go.Proofs.YtdoghjmanogelaaW.PrintMore
set_option linter.unusedVariables false
set_option linter.unusedSimpArgs false
set_option maxRecDepth 100000
theorem snoc_ind {α : Type} {p : List α → Prop} (h0 : p []) (h1 : ∀ l a, p l → p (l ++ [a])) (l : List α) : p l := by
  have h : ∀ m : List α, p m.reverse := by
    intro m
    induction m with
    | nil => exact h0
    | cons a m ih => rw [List.reverse_cons]; exact h1 _ _ ih
  have := h l.reverse
  rwa [List.reverse_reverse] at this
def mapD (l : List Nat) : DataW Unit := l.foldl (fun (m : DataW Unit) (k : Nat) => m.put (.int .i64 (k : Int)) (.lit (.int .i64 (Maps.size m : Int)))) (.map [])
theorem mapD_snoc (l : List Nat) (k : Nat) : mapD (l ++ [k]) = (mapD l).put (.int .i64 (k : Int)) (.lit (.int .i64 (Maps.size (mapD l) : Int))) := by simp [mapD, List.foldl_append]
theorem lit_ne {j k : Nat} (h : j ≠ k) : (Lit.int .i64 (j : Int)) ≠ Lit.int .i64 (k : Int) := fun e => by
  injection e with _ e
  exact h (by omega)
theorem mapD_tidy (l : List Nat) : Tidy (mapD l) := by
  induction l using snoc_ind with
  | h0 => exact tidy_empty
  | h1 l a ih => rw [mapD_snoc]; exact ih.put (show WideAt.IsKeyLit (Lit.int .i64 (a : Int)) from trivial) _
theorem mapD_has (l : List Nat) (k : Nat) : Maps.has (mapD l) (.int .i64 (k : Int)) = decide (k ∈ l) := by
  induction l using snoc_ind with
  | h0 => rfl
  | h1 l a ih =>
    rw [mapD_snoc]
    by_cases e : k = a
    · subst e
      rw [has_put_same (mapD_tidy l).isMap (show WideAt.IsKeyLit (Lit.int .i64 (k : Int)) from trivial)]
      simp
    · rw [has_put_other (lit_ne e), ih]
      simp [e]
theorem mapD_size {l : List Nat} (h : l.Nodup) : Maps.size (mapD l) = l.length := by
  induction l using snoc_ind with
  | h0 => rfl
  | h1 l a ih =>
    have h1 := List.nodup_append.1 h
    have ha : a ∉ l := fun hm => h1.2.2 a hm a (by simp) rfl
    rw [mapD_snoc, size_put (mapD_tidy l), mapD_has, decide_eq_false ha, ih h1.1]
    simp
theorem mapD_at {l : List Nat} (h : l.Nodup) {k : Nat} (hk : k ∈ l) (z : DataW Unit) : (mapD l).atKey (.int .i64 (k : Int)) z = .lit (.int .i64 (l.idxOf k : Int)) := by
  induction l using snoc_ind with
  | h0 => cases hk
  | h1 l a ih =>
    have h1 := List.nodup_append.1 h
    have ha : a ∉ l := fun hm => h1.2.2 a hm a (by simp) rfl
    rw [mapD_snoc]
    by_cases e : k = a
    · subst e
      rw [atKey_put_same (mapD_tidy l).isMap (show WideAt.IsKeyLit (Lit.int .i64 (k : Int)) from trivial), mapD_size h1.1, List.idxOf_append, if_neg ha]
      simp
    · have hkl : k ∈ l := by
        rcases List.mem_append.1 hk with h2 | h2
        · exact h2
        · exact absurd (List.mem_singleton.1 h2) e
      rw [atKey_put_other (lit_ne e), ih h1.1 hkl, List.idxOf_append, if_pos hkl]
abbrev MapN (w : World) (m : Nat) (l : List Nat) : Prop := w.ownsMap Try.prog 2 (plainElem Try.prog 2) m l.length (mapD l)
theorem MapN.chg {w w' : World} {m : Nat} {l : List Nat} {S : Nat → Prop} (h : MapN w m l) (hc : Chg S w w') (hS : ¬ S m) : MapN w' m l := by
  obtain ⟨es, clock, hb, r⟩ := h
  have hm : m < w.heap.size := by
    rw [Array.getElem?_eq_some_iff] at hb
    exact hb.1
  exact ⟨es, clock, (hc.block m hm hS).trans hb, r⟩
theorem MapN.ne {w : World} {m j : Nat} {l : List Nat} {cs : Array Value} {t : TypeId} {f : Nat × Nat} (h : MapN w m l) (hb : w.heap[j]? = some (.cells cs t f)) : j ≠ m := fun e => by
  obtain ⟨es, clock, hm, _⟩ := h
  rw [e, hm] at hb
  injection hb with hb
  cases hb
structure PBk (w : World) (lo : Nat) (gs go gk mt ct mo co gw gf : Nat) (tA oA bA : Option Addr) (tc oc bc : Nat) (s : QS) (b : Bk) (v1 v2 v3 vw : SV) : Prop where
  qs : w.heap[gs]? = some (.cells #[.slice tA s.texts.length tc, .slice oA s.objs.length oc, .slice bA s.fibers.length bc, .int .i64 s.cur, .int .i64 s.steps, .int .i64 s.spent, .int .i64 s.read] 40)
  qo : w.heap[go]? = some (.cells #[.slice v1.1 v1.2.1 v1.2.2, .slice v2.1 v2.2.1 v2.2.2, .slice v3.1 v3.2.1 v3.2.2, .int .i64 s.cur, .int .i64 s.steps, .int .i64 s.spent, .int .i64 s.read] 40)
  qk : w.heap[gk]? = some (.cells #[.slice none 0 0, .slice none 0 0, .slice none 0 0, .slice none 0 0, .slice tA s.texts.length tc, .slice oA s.objs.length oc, .slice bA s.fibers.length bc, .int .i64 s.cur, .int .i64 s.steps, .int .i64 s.spent, .int .i64 s.read] 101)
  qct : w.heap[ct]? = some (.cells #[.map (some mt)] 115)
  qco : w.heap[co]? = some (.cells #[.map (some mo)] 115)
  qgw : w.heap[gw]? = some (.cells #[.slice vw.1 vw.2.1 vw.2.2] 57)
  qf : w.heap[gf]? = some (.cells #[.func (.func 58) #[] #[.pointer (some ⟨gs, 0, none⟩), .pointer (some ⟨ct, 0, none⟩), .pointer (some ⟨go, 0, none⟩)]] 117)
  qmt : MapN w mt b.ts
  qmo : MapN w mo b.os
  rt : Ow Kd.string 9 w lo v1 (textsQ s b.ts)
  rk : Ow (Kd.int .i64) 2 w lo vw (b.os.map (fun k : Nat => (k : Int)))
  mm : mt ≠ mo
  so : gs ≠ go
  lg : lo ≤ go ∧ lo ≤ mt ∧ lo ≤ mo ∧ lo ≤ gw
def Parts (gs go gk mt ct mo co gw gf : Nat) (v1 vw : SV) (j : Nat) : Prop := j = gs ∨ j = go ∨ j = gk ∨ j = ct ∨ j = co ∨ j = gw ∨ j = gf ∨ j = mt ∨ j = mo ∨ (svl v1).ownBlock = some j ∨ (svl vw).ownBlock = some j
theorem PBk.hit {w w' : World} {lo gs go gk mt ct mo co gw gf : Nat} {tA oA bA : Option Addr} {tc oc bc : Nat} {s : QS} {b : Bk} {v1 v2 v3 vw : SV} {S : Nat → Prop} (h : PBk w lo gs go gk mt ct mo co gw gf tA oA bA tc oc bc s b v1 v2 v3 vw) (hc : Chg S w w') (hh : ∀ j, S j → Parts gs go gk mt ct mo co gw gf v1 vw j → False) : PBk w' lo gs go gk mt ct mo co gw gf tA oA bA tc oc bc s b v1 v2 v3 vw :=
  ⟨hc.blk h.qs (fun e => hh _ e (by simp [Parts])), hc.blk h.qo (fun e => hh _ e (by simp [Parts])), hc.blk h.qk (fun e => hh _ e (by simp [Parts])), hc.blk h.qct (fun e => hh _ e (by simp [Parts])), hc.blk h.qco (fun e => hh _ e (by simp [Parts])), hc.blk h.qgw (fun e => hh _ e (by simp [Parts])), hc.blk h.qf (fun e => hh _ e (by simp [Parts])), h.qmt.chg hc (fun e => hh _ e (by simp [Parts])), h.qmo.chg hc (fun e => hh _ e (by simp [Parts])), h.rt.chg hc (fun j h1 h2 => hh j h2 (by simp [Parts, h1])), h.rk.chg hc (fun j h1 h2 => hh j h2 (by simp [Parts, h1])), h.mm, h.so, h.lg⟩
theorem PBk.new {w w' : World} {lo gs go gk mt ct mo co gw gf : Nat} {tA oA bA : Option Addr} {tc oc bc : Nat} {s : QS} {b : Bk} {v1 v2 v3 vw : SV} (h : PBk w lo gs go gk mt ct mo co gw gf tA oA bA tc oc bc s b v1 v2 v3 vw) (hc : Chg (fun _ => False) w w') : PBk w' lo gs go gk mt ct mo co gw gf tA oA bA tc oc bc s b v1 v2 v3 vw := h.hit hc (fun _ h _ => h)
theorem PBk.typ {w : World} {lo gs go gk mt ct mo co gw gf : Nat} {tA oA bA : Option Addr} {tc oc bc : Nat} {s : QS} {b : Bk} {v1 v2 v3 vw : SV} {j : Nat} {cs : Array Value} {t : TypeId} (h : PBk w lo gs go gk mt ct mo co gw gf tA oA bA tc oc bc s b v1 v2 v3 vw) (hj : Parts gs go gk mt ct mo co gw gf v1 vw j) (hb : w.heap[j]? = some (.cells cs t (0, 0))) : t ∈ [40, 101, 115, 57, 117, 9, 2] := by
  rcases hj with e | e | e | e | e | e | e | e | e | e | e
  · subst e; rw [cells_t h.qs hb]; decide
  · subst e; rw [cells_t h.qo hb]; decide
  · subst e; rw [cells_t h.qk hb]; decide
  · subst e; rw [cells_t h.qct hb]; decide
  · subst e; rw [cells_t h.qco hb]; decide
  · subst e; rw [cells_t h.qgw hb]; decide
  · subst e; rw [cells_t h.qf hb]; decide
  · exact absurd e (h.qmt.ne hb)
  · exact absurd e (h.qmo.ne hb)
  · rw [own_type h.rt e hb]; decide
  · rw [own_type h.rk e hb]; decide
theorem PBk.set {w : World} {lo gs go gk mt ct mo co gw gf : Nat} {tA oA bA : Option Addr} {tc oc bc : Nat} {s : QS} {b : Bk} {v1 v2 v3 vw : SV} {g i : Nat} {u : Value} {cs : Array Value} {t : TypeId} (h : PBk w lo gs go gk mt ct mo co gw gf tA oA bA tc oc bc s b v1 v2 v3 vw) (hg : w.heap[g]? = some (.cells cs t (0, 0))) (hd : t ∉ [40, 101, 115, 57, 117, 9, 2]) : PBk (w.setCell ⟨g, i, none⟩ u) lo gs go gk mt ct mo co gw gf tA oA bA tc oc bc s b v1 v2 v3 vw :=
  h.hit (chg_set w g i u) (fun j hj hp => hd (h.typ hp (hj ▸ hg)))
theorem PBk.row {w w' : World} {lo gs go gk mt ct mo co gw gf : Nat} {tA oA bA : Option Addr} {tc oc bc : Nat} {s : QS} {b : Bk} {v1 v2 v3 vw v : SV} {α : Type} {kd : Kd α} {e : TypeId} {lo' : Nat} {xs : List α} (h : PBk w lo gs go gk mt ct mo co gw gf tA oA bA tc oc bc s b v1 v2 v3 vw) (ho : Ow kd e w lo' v xs) (hd : e ∉ [40, 101, 115, 57, 117, 9, 2]) (hc : Chg (fun j => (svl v).ownBlock = some j) w w') : PBk w' lo gs go gk mt ct mo co gw gf tA oA bA tc oc bc s b v1 v2 v3 vw :=
  h.hit hc (fun j hj hp => by
    obtain ⟨cu, ec⟩ := Kd.R_typed ho.1 j hj
    exact hd (h.typ hp ec))
def Turn2 (w w' : World) (lo go : Nat) (vw vw' : SV) : Prop := ∃ S : Nat → Prop, Chg S w w' ∧ (∀ j, S j → lo ≤ j) ∧ (∀ j cs t, S j → w.heap[j]? = some (.cells cs t (0, 0)) → j = go ∨ t ∈ [9, 57] ∨ (svl vw).ownBlock = some j) ∧ ∀ j, (svl vw').ownBlock = some j → (svl vw).ownBlock = some j ∨ w.heap.size ≤ j
theorem Turn2.refl (w : World) (lo go : Nat) (vw : SV) : Turn2 w w lo go vw vw := ⟨fun _ => False, Chg.refl _ _, fun _ h => h.elim, fun _ _ _ h => h.elim, fun _ h => Or.inl h⟩
theorem Turn2.of_new {w w' : World} {lo go : Nat} {vw : SV} (h : Chg (fun _ => False) w w') : Turn2 w w' lo go vw vw := ⟨_, h, fun _ h => h.elim, fun _ _ _ h => h.elim, fun _ h => Or.inl h⟩
theorem Turn2.trans {w w1 w' : World} {lo go : Nat} {vw vw1 vw' : SV} (h : Turn2 w w1 lo go vw vw1) (h1 : Turn2 w1 w' lo go vw1 vw') : Turn2 w w' lo go vw vw' := by
  obtain ⟨S1, hc1, hl1, hS1, hm1⟩ := h
  obtain ⟨S2, hc2, hl2, hS2, hm2⟩ := h1
  refine ⟨fun b => S1 b ∨ (S2 b ∧ b < w.heap.size), (hc1.mono (fun _ _ h => Or.inl h)).trans hc2 (fun b hb h => Or.inr ⟨h, hb⟩), fun b hb => hb.elim (hl1 b) (fun h => hl2 b h.1), fun b cs t hb he => ?_, fun j hj => ?_⟩
  · rcases hb with hb | ⟨hb, hs⟩
    · exact hS1 b cs t hb he
    · by_cases h0 : S1 b
      · exact hS1 b cs t h0 he
      · rcases hS2 b cs t hb (by rw [hc1.block b hs h0]; exact he) with h3 | h3 | h3
        · exact Or.inl h3
        · exact Or.inr (Or.inl h3)
        · rcases hm1 b h3 with h4 | h4
          · exact Or.inr (Or.inr h4)
          · omega
  · rcases hm2 j hj with h3 | h3
    · exact hm1 j h3
    · have := hc1.size
      exact Or.inr (by omega)
theorem Turn2.size {w w' : World} {lo go : Nat} {vw vw' : SV} (h : Turn2 w w' lo go vw vw') : w.heap.size ≤ w'.heap.size := by
  obtain ⟨S, hc, _⟩ := h
  exact hc.size
theorem Turn2.chg {w0 w w' : World} {go : Nat} {vw vw' : SV} (h0 : Chg (fun _ => False) w0 w) (h : Turn2 w w' w0.heap.size go vw vw') : Chg (fun _ => False) w0 w' := by
  obtain ⟨S, hc, hl, _⟩ := h
  exact h0.trans hc (fun b hb hS => by have := hl b hS; omega)
theorem Turn2.then_own {w w1 w' : World} {lo go : Nat} {vw vw' : SV} {S : Nat → Prop} (h : Turn2 w w1 lo go vw vw') (h1 : Chg S w1 w') (hS : ∀ b, S b → w.heap.size ≤ b) : Turn2 w w' lo go vw vw' := by
  obtain ⟨S0, hc, hl, h0, hm⟩ := h
  exact ⟨S0, hc.trans h1 (fun b hb h2 => absurd (hS b h2) (by omega)), hl, h0, hm⟩
theorem Turn2.then_new {w w1 w' : World} {lo go : Nat} {vw vw' : SV} (h : Turn2 w w1 lo go vw vw') (h1 : Chg (fun _ => False) w1 w') : Turn2 w w' lo go vw vw' := h.then_own h1 (fun _ h => h.elim)
theorem Turn2.new_then {w w1 w' : World} {lo go : Nat} {vw vw' : SV} (h : Chg (fun _ => False) w w1) (h1 : Turn2 w1 w' lo go vw vw') : Turn2 w w' lo go vw vw' := (Turn2.of_new h).trans h1
theorem Turn2.set {w0 w : World} {lo go g i : Nat} {vw vw' : SV} {u : Value} (h : Turn2 w0 w lo go vw vw') (hg : w0.heap.size ≤ g) : Turn2 w0 (w.setCell ⟨g, i, none⟩ u) lo go vw vw' := h.then_own (chg_set w g i u) (fun j hj => by rw [hj]; exact hg)
theorem Turn2.blk {w w' : World} {lo go g : Nat} {vw vw' : SV} {cs : Array Value} {t : TypeId} (h : Turn2 w w' lo go vw vw') (hb : w.heap[g]? = some (.cells cs t (0, 0))) (ht : t ∉ [9, 57]) (hg : g ≠ go) (hw : ¬ (svl vw).ownBlock = some g) : w'.heap[g]? = some (.cells cs t (0, 0)) := by
  obtain ⟨S, hc, _, hS, _⟩ := h
  exact hc.blk hb (fun e => (hS g cs t e hb).elim hg (fun h => h.elim ht hw))
theorem ow_turn2 {α : Type} {kd : Kd α} {e : TypeId} {w w' : World} {lo lo' go : Nat} {v vw vw' : SV} {xs : List α} (h : Ow kd e w lo v xs) (ht : Turn2 w w' lo' go vw vw') (hgo : ∀ j, (svl v).ownBlock = some j → j ≠ go) (he : e ∉ [9, 57]) (ha : apart vw v) : Ow kd e w' lo v xs := by
  obtain ⟨S, hc, _, hS, _⟩ := ht
  refine h.chg hc (fun j h1 h2 => ?_)
  obtain ⟨cu, ec⟩ := Kd.R_typed h.1 j h1
  rcases hS j _ _ h2 ec with h3 | h3 | h3
  · exact hgo j h1 h3
  · exact he h3
  · exact ha j h3 h1
theorem Turn2.apart {α : Type} {kd : Kd α} {e : TypeId} {w w' : World} {lo lo' go : Nat} {v vw vw' : SV} {xs : List α} (ht : Turn2 w w' lo' go vw vw') (h : Ow kd e w lo v xs) (ha : apart vw v) : apart vw' v := fun j h1 h2 => by
  obtain ⟨S, hc, _, hS, hm⟩ := ht
  rcases hm j h1 with h3 | h3
  · exact ha j h3 h2
  · have := h.lt j h2
    omega
theorem apart_typ {α β : Type} {kd : Kd α} {kd' : Kd β} {e e' : TypeId} {w : World} {lo lo' : Nat} {v v' : SV} {xs : List α} {ys : List β} (h : Ow kd e w lo v xs) (h' : Ow kd' e' w lo' v' ys) (he : e ≠ e') : apart v v' := fun j h1 h2 => Ow.ne h h' he j h1 h2
end Go.Proofs.Ytdoghjmanogelaa.K
