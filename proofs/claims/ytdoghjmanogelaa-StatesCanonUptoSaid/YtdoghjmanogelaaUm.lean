import Derived.Test.YtdoghjmanogelaaTf
import Derived.Test.YtdoghjmanogelaaUg
import Derived.IntWalk
namespace Go.Proofs.Ytdoghjmanogelaa.K
open Go.RowKit Go.Proofs.YtdoghjmanogelaaW.PrintWords Go.Proofs.YtdoghjmanogelaaW.PrintLast Go.Proofs.YtdoghjmanogelaaW.PrintMore
set_option linter.unusedVariables false
set_option linter.unusedSimpArgs false
set_option maxRecDepth 100000

/-- A cell behind the row's end is written. -/
theorem ow_beyond {w : World} {lo g n c j : Nat} {xs : List QV} {u : Value} (h : Ow kQV 56 w lo (some ⟨g, 0, none⟩, n, c) xs) (hj : xs.length * 2 ≤ j) : Ow kQV 56 (w.setCell ⟨g, j, none⟩ u) lo (some ⟨g, 0, none⟩, n, c) xs := by
  obtain ⟨⟨h0, inner, ho, hrp⟩, h2⟩ := h
  have hl : inner.length = xs.length * 2 := ho.1
  refine ⟨⟨h0, inner, ⟨ho.1, ?_⟩, hrp.imp_ (fun p cs hp => by
    rw [(kQV_K _ _ _).1 (kQV.K_of_M hp)]
    exact kQV_M _ _ _ _)⟩, h2⟩
  rcases ho.2 with ⟨h1, _⟩ | ⟨g', cap', cur, hv, _, hg, hnc, hcm, hcs, ht⟩
  · cases h1
  · unfold svl at hv
    injection hv with e1 e2 e3
    injection e1 with e1
    injection e1 with e1 _ _
    simp only at e2 e3
    subst e1 e3
    have hb := blk_set hg j u
    refine Or.inr ⟨g, c, _, by rw [← e2]; rfl, Nat.zero_le _, hb, hnc, hcm, by rw [Array.size_setIfInBounds]; exact hcs, ?_⟩
    show List.take _ _ = _
    rw [Array.toList_setIfInBounds, List.take_set, ht]
    exact List.set_eq_of_length_le (by omega)
theorem own_some {v : SV} {g : Nat} {w : World} {lo : Nat} {xs : List QV} (h : Ow kQV 56 w lo v xs) (hg : (svl v).ownBlock = some g) : ∃ n c, v = (some ⟨g, 0, none⟩, n, c) := by
  obtain ⟨A, n, c⟩ := v
  obtain ⟨⟨h0, inner, ho, hrp⟩, h2⟩ := h
  rcases ho.2 with ⟨h1, _⟩ | ⟨g', cap', cur, hv, _, hgg, _⟩
  · unfold svl at h1
    injection h1 with e1 e2 e3
    simp only at e1
    subst e1
    simp [svl, Value.ownBlock] at hg
  · unfold svl at hv
    injection hv with e1 e2 e3
    simp only at e1
    subst e1
    have : some g' = some g := hg
    injection this with this
    subst this
    exact ⟨n, c, rfl⟩
/-- A value is written into block g, at place k. -/
theorem ow_poke {w : World} {lo g k : Nat} {v : SV} {xs : List QV} {x : QV} {cu : Array Value} (h : Ow kQV 56 w lo v xs) (hg : w.heap[g]? = some (.cells cu 56 (0, 0))) :
    Ow kQV 56 ((w.setCell ⟨g, k * 2, none⟩ (.int .i64 x.kind)).setCell ⟨g, k * 2 + 1, none⟩ (.int .i64 x.n)) lo v (if (svl v).ownBlock = some g then xs.set k x else xs) := by
  by_cases ho : (svl v).ownBlock = some g
  · rw [if_pos ho]
    obtain ⟨n, c, rfl⟩ := own_some h ho
    by_cases hk : k < xs.length
    · have hx : xs[k]? = some xs[k] := List.getElem?_eq_getElem hk
      have hp1 := Ow.put (j := 0) (m := 2) (u := .int .i64 x.kind) (r' := ⟨x.kind, xs[k].n⟩) kQV_K kQV_M rfl h hx rfl (by decide)
      have hp2 := Ow.put (j := 1) (m := 2) (u := .int .i64 x.n) (r' := x) kQV_K kQV_M rfl hp1 (List.getElem?_set_self hk) rfl (by decide)
      rw [List.set_set] at hp2
      exact hp2
    · rw [List.set_eq_of_length_le (by omega)]
      exact ow_beyond (ow_beyond h (by omega)) (by omega)
  · rw [if_neg ho]
    have h1 := h.chg (chg_set w g (k * 2) (.int .i64 x.kind)) (fun j h1 h2 => ho (h2 ▸ h1))
    exact h1.chg (chg_set _ g (k * 2 + 1) (.int .i64 x.n)) (fun j h1 h2 => ho (h2 ▸ h1))
theorem ow_set2 {α : Type} {kd : Kd α} {e : TypeId} {w : World} {lo g k : Nat} {v : SV} {xs : List α} {cs : Array Value} {a b : Value} {t : TypeId} (h : Ow kd e w lo v xs) (hg : w.heap[g]? = some (.cells cs t (0, 0))) (hd : e ≠ t) : Ow kd e ((w.setCell ⟨g, k * 2, none⟩ a).setCell ⟨g, k * 2 + 1, none⟩ b) lo v xs := ow_set (ow_set h hg hd) (blk_set hg _ _) hd
def pokeL (g k : Nat) (x : QV) (v : SV) (l : List QV) : List QV := if (svl v).ownBlock = some g then l.set k x else l
theorem pokeL_len (g k : Nat) (x : QV) (v : SV) (l : List QV) : (pokeL g k x v l).length = l.length := by
  unfold pokeL
  split <;> simp
theorem pokeL_mem {g k : Nat} {x y : QV} {v : SV} {l : List QV} (h : y ∈ pokeL g k x v l) : y = x ∨ y ∈ l := by
  unfold pokeL at h
  split at h
  · rcases List.mem_or_eq_of_mem_set h with h1 | h1
    · exact Or.inr h1
    · exact Or.inl h1
  · exact Or.inr h
/-- The same with lists told by place. -/
def pokeO (g k : Nat) (x : QV) (ros : List RO) (l : List QO) : List QO := l.zipIdx.map (fun p => ⟨p.1.kind, match ros[p.2]? with | none => p.1.items | some r => pokeL g k x r.items p.1.items, p.1.keys, p.1.fn, p.1.cap, p.1.shut⟩)
def pokeF (g k : Nat) (x : QV) (rs : List RF) (l : List QFr) : List QFr := l.zipIdx.map (fun p => ⟨p.1.fn, p.1.pc, match rs[p.2]? with | none => p.1.slots | some r => pokeL g k x r.slots p.1.slots⟩)
def pokeB (g k : Nat) (x : QV) (Z : List (RB × List RF)) (l : List QB) : List QB := l.zipIdx.map (fun p => ⟨match Z[p.2]? with | none => p.1.frames | some z => pokeF g k x z.2 p.1.frames⟩)
theorem zipIdx_at {α β : Type} {l : List α} {f : α × Nat → β} {j : Nat} {y : β} (h : (l.zipIdx.map f)[j]? = some y) : ∃ a, l[j]? = some a ∧ y = f (a, j) := by
  rw [List.getElem?_map, List.getElem?_zipIdx] at h
  cases ha : l[j]? with
  | none => rw [ha] at h; simp at h
  | some a =>
    rw [ha] at h
    simp at h
    exact ⟨a, rfl, h.symm⟩
theorem zipIdx_mem {α β : Type} {l : List α} {f : α × Nat → β} {y : β} (h : y ∈ l.zipIdx.map f) : ∃ a j, a ∈ l ∧ l[j]? = some a ∧ y = f (a, j) := by
  obtain ⟨j, hj, hy⟩ := List.getElem_of_mem h
  obtain ⟨a, h1, h2⟩ := zipIdx_at (j := j) (y := y) (by rw [List.getElem?_eq_getElem hj, hy])
  exact ⟨a, j, List.mem_of_getElem? h1, h1, h2⟩
def pokeQ (g k : Nat) (x : QV) (ros : List RO) (Z : List (RB × List RF)) (s : QS) : QS := ⟨s.texts, pokeO g k x ros s.objs, pokeB g k x Z s.fibers, s.cur, s.steps, s.spent, s.read⟩
/-- What is the same, and how great all is. -/
structure Alike (s t : QS) : Prop where
  tx : t.texts = s.texts
  ol : t.objs.length = s.objs.length
  fl : t.fibers.length = s.fibers.length
  c : t.cur = s.cur
  st : t.steps = s.steps
  sp : t.spent = s.spent
  rd : t.read = s.read
  sm : SSmall t
  bd : SBound t
theorem Alike.refl {s : QS} (h1 : SSmall s) (h2 : SBound s) : Alike s s := ⟨rfl, rfl, rfl, rfl, rfl, rfl, rfl, h1, h2⟩
theorem Alike.trans {s t u : QS} (h : Alike s t) (h1 : Alike t u) : Alike s u := ⟨h1.tx.trans h.tx, h1.ol.trans h.ol, h1.fl.trans h.fl, h1.c.trans h.c, h1.st.trans h.st, h1.sp.trans h.sp, h1.rd.trans h.rd, h1.sm, h1.bd⟩
theorem Alike.poke {s : QS} {g k : Nat} {x : QV} {ros : List RO} {Z : List (RB × List RF)} (hs : SSmall s) (hb : SBound s) (hx : x.n ≤ 9223372036854775807) : Alike s (pokeQ g k x ros Z s) := by
  have hF : ∀ (rs : List RF) (l : List QFr) (f : QFr), f ∈ pokeF g k x rs l → ∃ f0 ∈ l, f.slots.length = f0.slots.length ∧ ∀ v ∈ f.slots, v = x ∨ v ∈ f0.slots := fun rs l f hf => by
    obtain ⟨a, j, ha, _, rfl⟩ := zipIdx_mem hf
    refine ⟨a, ha, ?_, fun v hv => ?_⟩
    · simp only
      cases rs[j]? with
      | none => rfl
      | some r => exact pokeL_len _ _ _ _ _
    · simp only at hv
      cases hr : rs[j]? with
      | none => rw [hr] at hv; exact Or.inr hv
      | some r => rw [hr] at hv; exact pokeL_mem hv
  have hB : ∀ y ∈ pokeB g k x Z s.fibers, ∃ b ∈ s.fibers, y.frames.length = b.frames.length ∧ ∀ f ∈ y.frames, ∃ f0 ∈ b.frames, f.slots.length = f0.slots.length ∧ ∀ v ∈ f.slots, v = x ∨ v ∈ f0.slots := fun y hy => by
    obtain ⟨b, j, hbm, _, rfl⟩ := zipIdx_mem hy
    refine ⟨b, hbm, ?_, fun f hf => ?_⟩
    · simp only
      cases Z[j]? with
      | none => rfl
      | some z => simp [pokeF]
    · simp only at hf
      cases hz : Z[j]? with
      | none => rw [hz] at hf; exact ⟨f, hf, rfl, fun v hv => Or.inr hv⟩
      | some z => rw [hz] at hf; exact hF _ _ f hf
  have hO : ∀ y ∈ pokeO g k x ros s.objs, ∃ b ∈ s.objs, y.items.length = b.items.length ∧ y.keys = b.keys ∧ ∀ v ∈ y.items, v = x ∨ v ∈ b.items := fun y hy => by
    obtain ⟨b, j, hbm, _, rfl⟩ := zipIdx_mem hy
    refine ⟨b, hbm, ?_, rfl, fun v hv => ?_⟩
    · simp only
      cases ros[j]? with
      | none => rfl
      | some r => exact pokeL_len _ _ _ _ _
    · simp only at hv
      cases hr : ros[j]? with
      | none => rw [hr] at hv; exact Or.inr hv
      | some r => rw [hr] at hv; exact pokeL_mem hv
  refine ⟨rfl, by simp [pokeQ, pokeO], by simp [pokeQ, pokeB], rfl, rfl, rfl, rfl, ⟨hs.t, by simp [pokeQ, pokeO]; exact hs.o, by simp [pokeQ, pokeB]; exact hs.b, fun y hy => ?_, fun y hy => ?_⟩, ⟨fun y hy f hf v hv => ?_, fun y hy v hv => ?_, fun y hy v hv => ?_⟩⟩
  · obtain ⟨b, hb1, e1, e2, _⟩ := hO y hy
    rw [e1, e2]; exact hs.oi b hb1
  · obtain ⟨b, hb1, e1, e2⟩ := hB y hy
    refine ⟨by rw [e1]; exact (hs.bf b hb1).1, fun f hf => ?_⟩
    obtain ⟨f0, h0, e3, _⟩ := e2 f hf
    rw [e3]; exact (hs.bf b hb1).2 f0 h0
  · obtain ⟨b, hb1, e1, e2⟩ := hB y hy
    obtain ⟨f0, h0, e3, e4⟩ := e2 f hf
    rcases e4 v hv with h1 | h1
    · rw [h1]; exact hx
    · exact hb.sl b hb1 f0 h0 v h1
  · obtain ⟨b, hb1, e1, e2, e3⟩ := hO y hy
    rcases e3 v hv with h1 | h1
    · rw [h1]; exact hx
    · exact hb.it b hb1 v h1
  · obtain ⟨b, hb1, e1, e2, e3⟩ := hO y hy
    rw [e2] at hv
    exact hb.ky b hb1 v hv
theorem SOwn.poke {w : World} {lo g k : Nat} {v1 v2 v3 : SV} {s : QS} {ros : List RO} {Z : List (RB × List RF)} {x : QV} {cu : Array Value} (h : SOwn w lo v1 v2 v3 s ros Z) (hg : w.heap[g]? = some (.cells cu 56 (0, 0))) :
    SOwn ((w.setCell ⟨g, k * 2, none⟩ (.int .i64 x.kind)).setCell ⟨g, k * 2 + 1, none⟩ (.int .i64 x.n)) lo v1 v2 v3 (pokeQ g k x ros Z s) ros Z := by
  refine ⟨ow_set2 h.t hg (by decide), ow_set2 h.o hg (by decide), ow_set2 h.b hg (by decide), ⟨by simp [pokeQ, pokeO]; exact h.oc.1, fun j r y h1 h2 => ?_⟩, ⟨by simp [pokeQ, pokeB]; exact h.bc.1, fun j z y h1 h2 => ?_⟩, h.ba⟩
  · obtain ⟨a, ha, rfl⟩ := zipIdx_at h2
    obtain ⟨a1, a2, a3, a4, a5, a6⟩ := h.oc.2 j r a h1 ha
    refine ⟨a1, a2, a3, a4, ?_, ow_set2 a6 hg (by decide)⟩
    simp only [h1]
    exact ow_poke a5 hg
  · obtain ⟨a, ha, rfl⟩ := zipIdx_at h2
    obtain ⟨b1, b2⟩ := h.bc.2 j z a h1 ha
    refine ⟨ow_set2 b1 hg (by decide), ?_⟩
    simp only [h1]
    refine ⟨by simp [pokeF]; exact b2.1, fun i q f h3 h4 => ?_⟩
    obtain ⟨f0, hf0, rfl⟩ := zipIdx_at h4
    obtain ⟨c1, c2, c3⟩ := b2.2 i q f0 h3 hf0
    refine ⟨c1, c2, ?_⟩
    simp only [h3]
    exact ow_poke c3 hg
theorem SOwn.putRO {w : World} {lo g n c k : Nat} {v1 v3 : SV} {s : QS} {ros : List RO} {Z : List (RB × List RF)} {r : RO} {x : QO} (r' : RO) (x' : QO) (h : SOwn w lo v1 (some ⟨g, 0, none⟩, n, c) v3 s ros Z) (hr : ros[k]? = some r) (hx : s.objs[k]? = some x) (e1 : r'.kind = x'.kind) (e2 : r'.fn = x'.fn) (e3 : r'.cap = x'.cap) (e4 : r'.shut = x'.shut) (hi : Ow kQV 56 w lo r'.items x'.items) (hk : Ow (Kd.int .i64) 2 w lo r'.keys x'.keys) :
    SOwn ((((((w.setCell ⟨g, k * 6 + 0, none⟩ (.int .i64 r'.kind)).setCell ⟨g, k * 6 + 1, none⟩ (.slice r'.items.1 r'.items.2.1 r'.items.2.2)).setCell ⟨g, k * 6 + 2, none⟩ (.slice r'.keys.1 r'.keys.2.1 r'.keys.2.2)).setCell ⟨g, k * 6 + 3, none⟩ (.int .i64 r'.fn)).setCell ⟨g, k * 6 + 4, none⟩ (.int .i64 r'.cap)).setCell ⟨g, k * 6 + 5, none⟩ (.bool r'.shut)) lo v1 (some ⟨g, 0, none⟩, n, c) v3 ⟨s.texts, s.objs.set k x', s.fibers, s.cur, s.steps, s.spent, s.read⟩ (ros.set k r') Z := by
  obtain ⟨k0, i0, s0, f0, c0, u0⟩ := r
  obtain ⟨k1, i1, s1, f1, c1, u1⟩ := r'
  obtain ⟨cu, hg⟩ := Kd.R_typed h.o.1 g rfl
  have hs : Chg (fun j => j = g) w ((((((w.setCell ⟨g, k * 6 + 0, none⟩ (.int .i64 k1)).setCell ⟨g, k * 6 + 1, none⟩ (.slice i1.1 i1.2.1 i1.2.2)).setCell ⟨g, k * 6 + 2, none⟩ (.slice s1.1 s1.2.1 s1.2.2)).setCell ⟨g, k * 6 + 3, none⟩ (.int .i64 f1)).setCell ⟨g, k * 6 + 4, none⟩ (.int .i64 c1)).setCell ⟨g, k * 6 + 5, none⟩ (.bool u1)) := (((((((Chg.refl (fun j => j = g) w).setCell (p := ⟨g, k * 6 + 0, none⟩) (fun _ => rfl) _).setCell (p := ⟨g, k * 6 + 1, none⟩) (fun _ => rfl) _).setCell (p := ⟨g, k * 6 + 2, none⟩) (fun _ => rfl) _).setCell (p := ⟨g, k * 6 + 3, none⟩) (fun _ => rfl) _).setCell (p := ⟨g, k * 6 + 4, none⟩) (fun _ => rfl) _).setCell (p := ⟨g, k * 6 + 5, none⟩) (fun _ => rfl) _)
  have hkl : k < ros.length := (List.getElem?_eq_some_iff.1 hr).1
  have p0 := Ow.put (j := 0) (m := 6) (u := .int .i64 k1) (r' := ⟨k1, i0, s0, f0, c0, u0⟩) kRO_K kRO_M rfl h.o hr rfl (by decide)
  have p1 := Ow.put (j := 1) (m := 6) (u := .slice i1.1 i1.2.1 i1.2.2) (r' := ⟨k1, i1, s0, f0, c0, u0⟩) kRO_K kRO_M rfl p0 (List.getElem?_set_self hkl) rfl (by decide)
  rw [List.set_set] at p1
  have p2 := Ow.put (j := 2) (m := 6) (u := .slice s1.1 s1.2.1 s1.2.2) (r' := ⟨k1, i1, s1, f0, c0, u0⟩) kRO_K kRO_M rfl p1 (List.getElem?_set_self hkl) rfl (by decide)
  rw [List.set_set] at p2
  have p3 := Ow.put (j := 3) (m := 6) (u := .int .i64 f1) (r' := ⟨k1, i1, s1, f1, c0, u0⟩) kRO_K kRO_M rfl p2 (List.getElem?_set_self hkl) rfl (by decide)
  rw [List.set_set] at p3
  have p4 := Ow.put (j := 4) (m := 6) (u := .int .i64 c1) (r' := ⟨k1, i1, s1, f1, c1, u0⟩) kRO_K kRO_M rfl p3 (List.getElem?_set_self hkl) rfl (by decide)
  rw [List.set_set] at p4
  have p5 := Ow.put (j := 5) (m := 6) (u := .bool u1) (r' := ⟨k1, i1, s1, f1, c1, u1⟩) kRO_K kRO_M rfl p4 (List.getElem?_set_self hkl) rfl (by decide)
  rw [List.set_set] at p5
  refine ⟨ow_set7 h.t hs hg (by decide), p5, ow_set7 h.b hs hg (by decide), ⟨by rw [List.length_set, List.length_set]; exact h.oc.1, fun j q y h1 h2 => ?_⟩, h.bc.hit hs (hits_set hg (by decide)), h.ba⟩
  by_cases hj : k = j
  · subst hj
    rw [List.getElem?_set_self hkl] at h1
    rw [List.getElem?_set_self (List.getElem?_eq_some_iff.1 hx).1] at h2
    injection h1 with h1
    injection h2 with h2
    subst h1 h2
    exact ⟨e1, e2, e3, e4, ow_set7 hi hs hg (by decide), ow_set7 hk hs hg (by decide)⟩
  · rw [List.getElem?_set_ne hj] at h1 h2
    obtain ⟨a1, a2, a3, a4, a5, a6⟩ := h.oc.2 j q y h1 h2
    exact ⟨a1, a2, a3, a4, ow_set7 a5 hs hg (by decide), ow_set7 a6 hs hg (by decide)⟩
theorem Alike.putRO {s : QS} {k : Nat} {x' : QO} (hs : SSmall s) (hb : SBound s) (h1 : x'.items.length ≤ 1048576 ∧ x'.keys.length ≤ 1048576) (h2 : ∀ v ∈ x'.items, v.n ≤ 9223372036854775807) (h3 : ∀ v ∈ x'.keys, v ≤ 9223372036854775807) : Alike s ⟨s.texts, s.objs.set k x', s.fibers, s.cur, s.steps, s.spent, s.read⟩ :=
  ⟨rfl, by simp, rfl, rfl, rfl, rfl, rfl, ⟨hs.t, by simp; exact hs.o, hs.b, fun y hy => (List.mem_or_eq_of_mem_set hy).elim (fun h => hs.oi y h) (fun h => by rw [h]; exact h1), hs.bf⟩, ⟨hb.sl, fun y hy => (List.mem_or_eq_of_mem_set hy).elim (fun h => hb.it y h) (fun h => by rw [h]; exact h2), fun y hy => (List.mem_or_eq_of_mem_set hy).elim (fun h => hb.ky y h) (fun h => by rw [h]; exact h3)⟩⟩
end Go.Proofs.Ytdoghjmanogelaa.K
