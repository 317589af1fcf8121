import Derived.Test.YtdoghjmanogelaaSg
import Derived.IntWalk
import Derived.BigQuiet
import Derived.Deep.RegionHeld3
namespace Go.Proofs.Ytdoghjmanogelaa.K
open Go.RowKit Go.Proofs.YtdoghjmanogelaaW.PrintWords Go.Proofs.YtdoghjmanogelaaW.PrintLast Go.Proofs.YtdoghjmanogelaaW.PrintMore
set_option linter.unusedVariables false
set_option linter.unusedSimpArgs false
set_option maxRecDepth 100000
theorem set_midN {α : Type} {l : List α} {a j m : Nat} {u : α} (h : a + m ≤ l.length) (hj : j < m) : l.set (a + j) u = l.take a ++ ((l.drop a).take m).set j u ++ l.drop (a + m) := by
  conv => lhs; rw [← List.take_append_drop a l, List.set_append_right _ _ (by rw [List.length_take]; omega), List.length_take, ← List.take_append_drop m (l.drop a)]
  rw [show a + j - min a l.length = j by omega, List.set_append_left _ _ (by rw [List.length_take, List.length_drop]; omega), List.drop_drop, List.append_assoc]
theorem Ow.put {α : Type} {kd : Kd α} {cells : α → List Value} {e : TypeId} {w : World} {lo g n c i j m : Nat} {xs : List α} {r r' : α} {u : Value} (hK : ∀ (w : World) (p : α) (cs : List Value), kd.K w p cs ↔ cs = cells p) (hM : ∀ (w : World) (base : Nat) (ok : Nat → Prop) (p : α), kd.M w base ok p (cells p)) (hm : kd.sz = m)
    (h : Ow kd e w lo (some ⟨g, 0, none⟩, n, c) xs) (hx : xs[i]? = some r) (hr : cells r' = (cells r).set j u) (hj : j < m) : Ow kd e (w.setCell ⟨g, i * m + j, none⟩ u) lo (some ⟨g, 0, none⟩, n, c) (xs.set i r') := by
  subst hm
  obtain ⟨⟨h0, inner, ho, hrp⟩, h2⟩ := h
  have hi := (List.getElem?_eq_some_iff.1 hx).1
  refine ⟨?_, h2⟩
  rcases ho.2 with ⟨h1, _⟩ | ⟨g', cap', cur, hv, _, hg, hnc, hcm, hcs, ht⟩
  · cases h1
  · unfold svl at hv
    injection hv with e1 e2 e3
    injection e1 with e1
    injection e1 with e1 _ _
    simp only at e2 e3
    subst e1 e3
    have hl : inner.length = xs.length * kd.sz := ho.1
    have hfit : i * kd.sz + kd.sz ≤ inner.length := by rw [hl, ← Nat.succ_mul]; exact Nat.mul_le_mul_right _ hi
    have hb := blk_set hg (i * kd.sz + j) u
    have hseg : (inner.drop (i * kd.sz)).take kd.sz = cells r := (hK _ _ _).1 (kd.K_of_M (hrp.2 i r hx))
    have hcl : (cells r).length = kd.sz := by rw [← hseg, List.length_take, List.length_drop]; omega
    refine ⟨h0, inner.set (i * kd.sz + j) u, ⟨?_, ?_⟩, ?_⟩
    · rw [List.length_set, List.length_set]; exact ho.1
    · right
      refine ⟨g, c, _, by rw [List.length_set, ← e2]; rfl, Nat.zero_le _, hb, by rw [List.length_set, ← e2]; rw [e2]; exact hnc, hcm, by rw [Array.size_setIfInBounds]; exact hcs, ?_⟩
      rw [List.length_set]
      show List.take _ _ = _
      rw [Array.toList_setIfInBounds, List.take_set, ht]
    · rw [set_midN (by omega) hj, hseg, ← hr]
      have hl2 : (cells r').length = kd.sz := by rw [hr, List.length_set, hcl]
      have := Kd.reps_set (hrp.imp_ (R' := kd.M (w.setCell ⟨g, i * kd.sz + j, none⟩ u) 0 (fun k => (fun k => some k = (svl (some ⟨g, 0, none⟩, n, c)).ownBlock) k ∧ some k ≠ (svl (some ⟨g, 0, none⟩, n, c)).ownBlock)) (fun p c hp => by rw [(hK _ _ _).1 (kd.K_of_M hp)]; exact hM _ _ _ _)) (i := i) hi (x := r') (seg := cells r') (hM _ _ _ _) hl2
      rw [hl2] at this
      exact this
theorem Ow.cut {α : Type} {kd : Kd α} {e : TypeId} {w : World} {lo c n : Nat} {A : Option Addr} {l m : List α} (h : Ow kd e w lo (A, n, c) (l ++ m)) : Ow kd e w lo (A, l.length, c) l := by
  obtain ⟨⟨h0, inner, ho, hrp⟩, h2⟩ := h
  have hlen : inner.length = (l ++ m).length * kd.sz := ho.1
  have hle : l.length * kd.sz ≤ inner.length := by rw [hlen]; exact Nat.mul_le_mul_right _ (by rw [List.length_append]; omega)
  have hrep : ∀ {ok : Nat → Prop}, Reps (kd.M w 0 ok) kd.sz (l ++ m) inner → Reps (kd.M w 0 ok) kd.sz l (inner.take (l.length * kd.sz)) := fun hrp => by
    refine ⟨by rw [List.length_take]; omega, fun j p hp => ?_⟩
    have hj := (List.getElem?_eq_some_iff.1 hp).1
    have hq := hrp.2 j p (by rw [List.getElem?_append_left hj]; exact hp)
    have hjs : j * kd.sz + kd.sz ≤ l.length * kd.sz := by rw [← Nat.succ_mul]; exact Nat.mul_le_mul_right _ hj
    rw [List.drop_take, List.take_take, Nat.min_eq_left (by omega)]
    exact hq
  rcases ho.2 with ⟨h1, hn0⟩ | ⟨g', cap', cur, hv, hg0, hg, hnc, hcm, hcs, ht⟩
  · rw [List.length_append] at hn0
    obtain rfl : l = [] := List.eq_nil_of_length_eq_zero (by omega)
    unfold svl at h1
    injection h1 with e1 e2 e3
    simp only at e1 e3
    subst e1 e3
    exact Ow.nil kd e w lo
  · unfold svl at hv
    injection hv with e1 e2 e3
    simp only at e1 e3
    subst e1 e3
    refine ⟨⟨h0, _, ⟨by rw [List.length_take]; omega, Or.inr ⟨g', c, cur, rfl, hg0, hg, by rw [List.length_append] at hnc; omega, hcm, hcs, ?_⟩⟩, hrep hrp⟩, h2⟩
    rw [← ht, List.take_take, Nat.min_eq_left]
    exact Nat.mul_le_mul_right _ (by rw [List.length_append]; omega)
theorem Ow.some {α : Type} {kd : Kd α} {e : TypeId} {w : World} {lo c n : Nat} {A : Option Addr} {l : List α} (h : Ow kd e w lo (A, n, c) l) (h0 : 0 < l.length) : ∃ g, A = some ⟨g, 0, none⟩ := by
  obtain ⟨g, cF, hBf, _⟩ := Kd.R_form h.1 h0
  unfold svl at hBf
  injection hBf with hBf
  exact ⟨g, hBf⟩
theorem Ow.len {α : Type} {kd : Kd α} {e : TypeId} {w : World} {lo c n : Nat} {A : Option Addr} {l : List α} (h : Ow kd e w lo (A, n, c) l) : n = l.length ∧ n ≤ c := by
  obtain ⟨h1, h2, _⟩ := Kd.R_reads' h.1
  exact ⟨h1, h2⟩
theorem Hits.sub {w : World} {lo : Nat} {S : Nat → Prop} {ts ts' : List TypeId} (h : Hits w lo S ts) (hs : ∀ t ∈ ts', t ∈ ts) : Hits w lo S ts' := fun b cs t hb hl hc hm => h b cs t hb hl hc (hs t hm)
theorem SOwn.hit {w w' : World} {lo : Nat} {v1 v2 v3 : SV} {s : QS} {ros : List RO} {Z : List (RB × List RF)} {S : Nat → Prop} (h : SOwn w lo v1 v2 v3 s ros Z) (hc : Chg S w w') (hh : Hits w lo S [9, 59, 51, 56, 2, 54]) : SOwn w' lo v1 v2 v3 s ros Z :=
  ⟨h.t.hit hc hh (by decide), h.o.hit hc hh (by decide), h.b.hit hc hh (by decide), h.oc.hit hc (hh.sub (by decide)), h.bc.hit hc (hh.sub (by decide)), h.ba⟩
theorem SOwn.mono {w : World} {lo lo' : Nat} {v1 v2 v3 : SV} {s : QS} {ros : List RO} {Z : List (RB × List RF)} (h : SOwn w lo v1 v2 v3 s ros Z) (hl : lo' ≤ lo) : SOwn w lo' v1 v2 v3 s ros Z := ⟨h.t.mono hl, h.o.mono hl, h.b.mono hl, h.oc.mono hl, h.bc.mono hl, h.ba⟩
end Go.Proofs.Ytdoghjmanogelaa.K
