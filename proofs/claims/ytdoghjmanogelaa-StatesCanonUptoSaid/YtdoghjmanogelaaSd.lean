import Derived.Test.YtdoghjmanogelaaSc
import Derived.IntWalk
import Derived.BigQuiet
import Derived.Laws.Rows
import Derived.Laws.Tables
namespace Go.Proofs.Ytdoghjmanogelaa.K
open Go.RowKit Go.Proofs.YtdoghjmanogelaaW.PrintWords Go.Proofs.YtdoghjmanogelaaW.PrintLast Go.Proofs.YtdoghjmanogelaaW.PrintMore
set_option linter.unusedVariables false
set_option linter.unusedSimpArgs false
set_option maxRecDepth 100000

theorem Ow.app {α : Type} {kd : Kd α} {e : TypeId} {w w1 : World} {lo : Nat} {v v1 : SV} {xs ys : List α} (hE : kd.E = []) (h : Ow kd e w lo v xs) (hr : kd.R e w1 0 (New (fun b => (svl v).ownBlock = some b) w w1) (svl v1) ys) (hl : lo ≤ w.heap.size) : Ow kd e w1 lo v1 ys :=
  ⟨Kd.R_tight hE hr, fun b hb => by
    rcases hr.1 b hb with h1 | h1
    · exact h.2 b h1
    · have := h1.1; omega⟩
theorem Ow.nil {α : Type} (kd : Kd α) (e : TypeId) (w : World) (lo : Nat) : Ow kd e w lo (none, 0, 0) ([] : List α) := ⟨Kd.R_nil _ _ _ _ _, fun b hb => by simp [svl, Value.ownBlock] at hb⟩
/-- Rows of objects, of frames that are copies: each list in a row of its own. -/
def OC (w : World) (lo : Nat) (rs : List RO) (xs : List QO) : Prop := rs.length = xs.length ∧ ∀ (k : Nat) (r : RO) (x : QO), rs[k]? = some r → xs[k]? = some x → r.kind = x.kind ∧ r.fn = x.fn ∧ r.cap = x.cap ∧ r.shut = x.shut ∧ Ow kQV 56 w lo r.items x.items ∧ Ow (Kd.int .i64) 2 w lo r.keys x.keys
def FC (w : World) (lo : Nat) (rs : List RF) (xs : List QFr) : Prop := rs.length = xs.length ∧ ∀ (k : Nat) (r : RF) (x : QFr), rs[k]? = some r → xs[k]? = some x → r.fn = x.fn ∧ r.pc = x.pc ∧ Ow kQV 56 w lo r.slots x.slots
/-- What a change hits is, where it is as new as this, of other types than these. -/
def Hits (w : World) (lo : Nat) (S : Nat → Prop) (ts : List TypeId) : Prop := ∀ b cs t, S b → lo ≤ b → w.heap[b]? = some (.cells cs t (0, 0)) → t ∉ ts
theorem Hits.no {w : World} {lo : Nat} {ts : List TypeId} : Hits w lo (fun _ => False) ts := fun _ _ _ h => h.elim
theorem Hits.old {w : World} {lo : Nat} {S : Nat → Prop} {ts : List TypeId} (h : ∀ b, S b → b < lo) : Hits w lo S ts := fun b _ _ hb hl => absurd (h b hb) (by omega)
theorem Hits.own {α : Type} {kd : Kd α} {e : TypeId} {w : World} {lo lo' : Nat} {v : SV} {xs : List α} {ts : List TypeId} (h : Ow kd e w lo' v xs) (he : e ∉ ts) : Hits w lo (fun b => (svl v).ownBlock = some b) ts := fun b cs t hb _ hc => by
  obtain ⟨c1, e1⟩ := Kd.R_typed h.1 b hb
  rw [e1] at hc
  injection hc with hc
  injection hc with _ hc
  rw [← hc]
  exact he
theorem Ow.hit {α : Type} {kd : Kd α} {e : TypeId} {w w' : World} {lo : Nat} {v : SV} {xs : List α} {S : Nat → Prop} {ts : List TypeId} (h : Ow kd e w lo v xs) (hc : Chg S w w') (hh : Hits w lo S ts) (he : e ∈ ts) : Ow kd e w' lo v xs :=
  h.chg hc (fun b hb hS => by
    obtain ⟨c1, e1⟩ := Kd.R_typed h.1 b hb
    exact hh b c1 e hS (h.2 b hb) e1 he)
theorem OC.hit {w w' : World} {lo : Nat} {rs : List RO} {xs : List QO} {S : Nat → Prop} (h : OC w lo rs xs) (hc : Chg S w w') (hh : Hits w lo S [56, 2]) : OC w' lo rs xs :=
  ⟨h.1, fun k r x h1 h2 => by
    obtain ⟨a1, a2, a3, a4, a5, a6⟩ := h.2 k r x h1 h2
    exact ⟨a1, a2, a3, a4, a5.hit hc hh (by decide), a6.hit hc hh (by decide)⟩⟩
theorem FC.hit {w w' : World} {lo : Nat} {rs : List RF} {xs : List QFr} {S : Nat → Prop} (h : FC w lo rs xs) (hc : Chg S w w') (hh : Hits w lo S [56]) : FC w' lo rs xs :=
  ⟨h.1, fun k r x h1 h2 => by
    obtain ⟨a1, a2, a3⟩ := h.2 k r x h1 h2
    exact ⟨a1, a2, a3.hit hc hh (by decide)⟩⟩
theorem OC.mono {w : World} {lo lo' : Nat} {rs : List RO} {xs : List QO} (h : OC w lo rs xs) (hl : lo' ≤ lo) : OC w lo' rs xs := ⟨h.1, fun k r x h1 h2 => by
  obtain ⟨a1, a2, a3, a4, a5, a6⟩ := h.2 k r x h1 h2
  exact ⟨a1, a2, a3, a4, a5.mono hl, a6.mono hl⟩⟩
theorem FC.mono {w : World} {lo lo' : Nat} {rs : List RF} {xs : List QFr} (h : FC w lo rs xs) (hl : lo' ≤ lo) : FC w lo' rs xs := ⟨h.1, fun k r x h1 h2 => by
  obtain ⟨a1, a2, a3⟩ := h.2 k r x h1 h2
  exact ⟨a1, a2, a3.mono hl⟩⟩
theorem pair_step {α β : Type} {rs : List α} {xs : List β} {R : α → β → Prop} {k : Nat} {r : α} {x : β} (h : rs.length = (xs.take k).length ∧ ∀ (j : Nat) (a : α) (b : β), rs[j]? = some a → (xs.take k)[j]? = some b → R a b) (hk : xs[k]? = some x) (hr : R r x) :
    (rs ++ [r]).length = (xs.take (k + 1)).length ∧ ∀ (j : Nat) (a : α) (b : β), (rs ++ [r])[j]? = some a → (xs.take (k + 1))[j]? = some b → R a b := by
  have hkl := (List.getElem?_eq_some_iff.1 hk).1
  have hrk : rs.length = k := by rw [h.1, List.length_take]; omega
  refine ⟨by rw [List.length_append, List.length_take, hrk]; simp; omega, fun j a b ha hb => ?_⟩
  rcases Nat.lt_or_ge j k with hj | hj
  · rw [List.getElem?_append_left (by omega)] at ha
    rw [List.getElem?_take_of_lt (by omega)] at hb
    exact h.2 j a b ha (by rw [List.getElem?_take_of_lt hj]; exact hb)
  · rw [List.getElem?_append_right (by omega)] at ha
    have hj0 : j - rs.length = 0 := by
      have := (List.getElem?_eq_some_iff.1 ha).1
      simp at this
      omega
    rw [hj0] at ha
    simp at ha
    have hjk : j = k := by omega
    subst hjk
    rw [List.getElem?_take_of_lt (by omega), hk] at hb
    injection hb with hb
    subst ha hb
    exact hr
section
variable {P : Program} {ops : Array Oper} {rest : List Oper} {o : Oper} {a : Act} {Q : Exit → Act → World → Prop} {α : Type}
/-- append(v, p), the element's block under another number. -/
theorem app1H (d : Kd α) {w W : World} {F : Nat → Prop} (hgd : o.guard = none) (s x : Operand) {t e : TypeId} {z : Value} {bytes : Nat}
    (ho : o.op = .call { callee := .builtin .append, args := #[s, x], argTypes := #[t, t] })
    (ht : P.underlying t = some (.slice e)) (hinfo : (P.info? e).map (fun i => (i.zero, i.size, i.bytes)) = some (some z, d.sz, bytes)) (hz : z.cells.size = d.sz) (hs0 : 0 < d.sz) (hb0 : 0 < bytes)
    {H : Nat} {v : Value} {xs : List α} (p : α) {cs : List Value} (hs : a.eval s = v) (hx : a.eval x = .slice (some ⟨H, 0, none⟩) 1 1) (hH : W.heap.size = H) (hp : d.M W 0 (fun _ => False) p cs)
    (HO : Aside0 (d.R e W 0 (New F w W) v xs)) (HC : Aside0 (Chg F w W)) (hl : Aside0 ((xs.length + 1) * bytes ≤ 140737488355328))
    (h : ∀ v1 w1, Aside0 (d.R e w1 0 (New F w w1) v1 (xs ++ [p])) → Aside0 (Chg F w w1) → wpList P ops Q rest (a.put o.dst v1) w1) :
    wpList P ops Q (o :: rest) a (W.alloc (.cells cs.toArray e)) := by
  subst hH
  exact app1 d hgd s x ho ht hinfo hz hs0 hb0 p hs hx hp HO HC hl h
end
set_option maxHeartbeats 4000000
theorem ref_CopyObjects (w : World) (A : Option Addr) (n cap : Nat) (ros : List RO) (xs : List QO) (hC : Kd.C kRO w A n ros) (hlen : ros.length = xs.length) (hraw : ∀ (k : Nat) (r : RO) (x : QO), ros[k]? = some r → xs[k]? = some x → RawO w r x) (hn : xs.length ≤ 1048576) (hb : ∀ x ∈ xs, x.items.length ≤ 1048576 ∧ x.keys.length ≤ 1048576) :
    Calls Try.prog 69 #[.slice A n cap] w fun e w' => ∃ (v : SV) (rs : List RO), e = .returned (svl v) ∧ Ow kRO 59 w' w.heap.size v rs ∧ OC w' w.heap.size rs xs ∧ Chg (fun _ => False) w w' := by
  have e0 := hC.1
  subst e0
  have hCA := Aside0.mk hC
  have hRA := Aside0.mk hraw
  have hbA := Aside0.mk hb
  have hLA := Aside0.mk hlen
  have hnr : ros.length ≤ 1048576 := by omega
  clear hC hraw hb hlen
  go_enter Try.func69, Try.ntmps69
  go_wp2
  go_loopw [3, 4] (fun v i wr => ∃ (k : Nat) (A2 : Option Addr) (n2 c2 : Nat) (rs : List RO), v = .slice A2 n2 c2 ∧ i = .int .i64 k ∧ k ≤ ros.length ∧ Aside0 (Ow kRO 59 wr w.heap.size (A2, n2, c2) rs) ∧ Aside0 (OC wr w.heap.size rs (xs.take k)) ∧ Aside0 (Chg (fun _ => False) w wr)) (fun _ i _ => ros.length - (intOf i).toNat)
  case atStart => exact ⟨0, none, 0, 0, [], rfl, rfl, by omega, ⟨Ow.nil _ _ _ _⟩, ⟨rfl, fun k r x h => by simp at h⟩, ⟨Chg.refl _ _⟩⟩
  case round =>
    obtain ⟨k, A2, n2, c2, rs, rfl, rfl, hk, hO, hK, hCh⟩ := hrel
    by_cases hlt : k < ros.length
    · obtain ⟨ad, r, e1, e2, x0, x1, x2, x3, x4, x5⟩ := atRO (C_chg hCA.out (hCh.out.below (fun _ _ h => h))) k hlt
      subst e1
      have hk0 : (0 : Int) ≤ k := by omega
      have hk1 : (k : Int) < ros.length := by omega
      obtain ⟨q, hq⟩ : ∃ q, xs[k]? = some q := ⟨_, List.getElem?_eq_getElem (by have := hLA.out; omega)⟩
      have hrw := Aside0.mk ((hRA.out k r q e2 hq).below (hCh.out.below (fun _ _ h => h)))
      have hqb := Aside0.mk (hbA.out q (List.mem_of_getElem? hq))
      have hqA := Aside0.mk hq
      have hrl := Aside0.mk hK.out.1
      clear e2 hq
      have hl : Aside0 ((rs.length + 1) * 80 ≤ 140737488355328) := ⟨by have := hrl.out; rw [List.length_take] at this; omega⟩
      go_wp2_with (first | (go_at_call 23; go_must (refine (ref_CopyObject _ r q.items q.keys hrw.out.2.2.2.2.1 hrw.out.2.2.2.2.2 hqb.out.1 hqb.out.2).mono ?_); go_must (rintro e w1 ⟨⟨iA, iN, iC⟩, ⟨kA, kN, kC⟩, rfl, oi1, ok1, hc1⟩); go_must (simp only [svl]); go_must (have hO1 := Aside0.mk ((hO.out.chg hc1 (fun _ _ h => h)).chg ((Chg.refl (fun _ => False) w1).alloc (.cells #[.int .i64 r.kind, .slice iA iN iC, .slice kA kN kC, .int .i64 r.fn, .int .i64 r.cap, .bool r.shut] 59 (0, 0))) (fun _ _ h => h))); go_must (have hRd := own_new0 hO1.out.1); go_must (have hCd : Aside0 (Chg (fun b => (svl (A2, n2, c2)).ownBlock = some b) (w1.alloc (.cells #[.int .i64 r.kind, .slice iA iN iC, .slice kA kN kC, .int .i64 r.fn, .int .i64 r.cap, .bool r.shut] 59 (0, 0))) (w1.alloc (.cells #[.int .i64 r.kind, .slice iA iN iC, .slice kA kN kC, .int .i64 r.fn, .int .i64 r.cap, .bool r.shut] 59 (0, 0)))) := ⟨Chg.refl _ _⟩); go_must (have hz1 := Aside0.mk (hc1.alloc (.cells #[.int .i64 r.kind, .slice iA iN iC, .slice kA kN kC, .int .i64 r.fn, .int .i64 r.cap, .bool r.shut] 59 (0, 0)))); go_must (have hw1 := Aside0.mk hc1.size); go_must (replace oi1 := Aside0.mk (oi1.chg ((Chg.refl (fun _ => False) w1).alloc (.cells #[.int .i64 r.kind, .slice iA iN iC, .slice kA kN kC, .int .i64 r.fn, .int .i64 r.cap, .bool r.shut] 59 (0, 0))) (fun _ _ h => h))); go_must (replace ok1 := Aside0.mk (ok1.chg ((Chg.refl (fun _ => False) w1).alloc (.cells #[.int .i64 r.kind, .slice iA iN iC, .slice kA kN kC, .int .i64 r.fn, .int .i64 r.cap, .bool r.shut] 59 (0, 0))) (fun _ _ h => h))); go_must (clear hc1)) | (at_builtin; go_must (refine app1H kRO rfl (.tmp 17) (.tmp 19) rfl Try.underlying37 infoRO rfl (by decide) (by decide) ⟨r.kind, (iA, iN, iC), (kA, kN, kC), r.fn, r.cap, r.shut⟩ rfl rfl (by simp) (kRO_M _ _ _ _) hRd hCd hl ?_); go_must (intro v1 w2 hr2 hc2); go_must (obtain ⟨A4, n4, c4, rfl⟩ := R_sl hr2.out)))
      go_roundw
      case measure => first | (simp [intOf]; done) | (simp [intOf]; omega)
      case rel =>
        have hfin : Chg (fun b => (svl (A2, n2, c2)).ownBlock = some b) wr w2 := (hz1.out.mono (fun _ _ h => h.elim)).trans hc2.out (fun _ _ h => h)
        have hlo := hCh.out.size
        have hO4 := Aside0.mk (Ow.app (v1 := (A4, n4, c4)) rfl hO1.out hr2.out (Nat.le_trans hlo hz1.out.size))
        refine ⟨k + 1, A4, n4, c4, rs ++ [(⟨r.kind, (iA, iN, iC), (kA, kN, kC), r.fn, r.cap, r.shut⟩ : RO)], rfl, by go_num, by omega, hO4, ⟨?_⟩, ⟨hCh.out.trans hfin (fun b hb h => by have := hO.out.2 b h; omega)⟩⟩
        have hKn := hK.out.hit hfin (Hits.own hO.out (by decide))
        exact pair_step (R := fun (r : RO) (x : QO) => r.kind = x.kind ∧ r.fn = x.fn ∧ r.cap = x.cap ∧ r.shut = x.shut ∧ Ow kQV 56 w2 w.heap.size r.items x.items ∧ Ow (Kd.int .i64) 2 w2 w.heap.size r.keys x.keys) hKn hqA.out ⟨hrw.out.1, hrw.out.2.1, hrw.out.2.2.1, hrw.out.2.2.2.1, ((oi1.out.chg hc2.out (fun b hb hS => Ow.ne oi1.out hO1.out (by decide) b hb hS)).mono (Nat.le_trans hlo (Nat.le_refl _))), ((ok1.out.chg hc2.out (fun b hb hS => Ow.ne ok1.out hO1.out (by decide) b hb hS)).mono (Nat.le_trans hlo (Nat.le_refl _)))⟩
    · obtain rfl : k = ros.length := by omega
      go_wp2
      go_ret
      have h := hK.out
      rw [List.take_of_length_le (by have := hLA.out; omega)] at h
      exact ⟨(A2, n2, c2), rs, rfl, hO.out, h, hCh.out⟩
set_option maxHeartbeats 4000000
theorem ref_CopyFrames (w : World) (A : Option Addr) (n cap : Nat) (ros : List RF) (xs : List QFr) (hC : Kd.C kRF w A n ros) (hlen : ros.length = xs.length) (hraw : ∀ (k : Nat) (r : RF) (x : QFr), ros[k]? = some r → xs[k]? = some x → RawF w r x) (hn : xs.length ≤ 1048576) (hb : ∀ x ∈ xs, x.slots.length ≤ 1048576) :
    Calls Try.prog 90 #[.slice A n cap] w fun e w' => ∃ (v : SV) (rs : List RF), e = .returned (svl v) ∧ Ow kRF 54 w' w.heap.size v rs ∧ FC w' w.heap.size rs xs ∧ Chg (fun _ => False) w w' := by
  have e0 := hC.1
  subst e0
  have hCA := Aside0.mk hC
  have hRA := Aside0.mk hraw
  have hbA := Aside0.mk hb
  have hLA := Aside0.mk hlen
  have hnr : ros.length ≤ 1048576 := by omega
  clear hC hraw hb hlen
  go_enter Try.func90, Try.ntmps90
  go_wp2
  go_loopw [3, 4] (fun v i wr => ∃ (k : Nat) (A2 : Option Addr) (n2 c2 : Nat) (rs : List RF), v = .slice A2 n2 c2 ∧ i = .int .i64 k ∧ k ≤ ros.length ∧ Aside0 (Ow kRF 54 wr w.heap.size (A2, n2, c2) rs) ∧ Aside0 (FC wr w.heap.size rs (xs.take k)) ∧ Aside0 (Chg (fun _ => False) w wr)) (fun _ i _ => ros.length - (intOf i).toNat)
  case atStart => exact ⟨0, none, 0, 0, [], rfl, rfl, by omega, ⟨Ow.nil _ _ _ _⟩, ⟨rfl, fun k r x h => by simp at h⟩, ⟨Chg.refl _ _⟩⟩
  case round =>
    obtain ⟨k, A2, n2, c2, rs, rfl, rfl, hk, hO, hK, hCh⟩ := hrel
    by_cases hlt : k < ros.length
    · obtain ⟨ad, r, e1, e2, x0, x1, x2⟩ := atRF (C_chg hCA.out (hCh.out.below (fun _ _ h => h))) k hlt
      subst e1
      have hk0 : (0 : Int) ≤ k := by omega
      have hk1 : (k : Int) < ros.length := by omega
      obtain ⟨q, hq⟩ : ∃ q, xs[k]? = some q := ⟨_, List.getElem?_eq_getElem (by have := hLA.out; omega)⟩
      have hrw := Aside0.mk ((hRA.out k r q e2 hq).below (hCh.out.below (fun _ _ h => h)))
      have hqb := Aside0.mk (hbA.out q (List.mem_of_getElem? hq))
      have hqA := Aside0.mk hq
      have hrl := Aside0.mk hK.out.1
      clear e2 hq
      have hl : Aside0 ((rs.length + 1) * 40 ≤ 140737488355328) := ⟨by have := hrl.out; rw [List.length_take] at this; omega⟩
      go_wp2_with (first | (go_at_call 103; go_must (refine (ref_CopyFrame _ r q.slots hrw.out.2.2 hqb.out).mono ?_); go_must (rintro e w1 ⟨⟨iA, iN, iC⟩, rfl, oi1, hc1⟩); go_must (simp only [svl]); go_must (have hO1 := Aside0.mk ((hO.out.chg hc1 (fun _ _ h => h)).chg ((Chg.refl (fun _ => False) w1).alloc (.cells #[.int .i64 r.fn, .int .i64 r.pc, .slice iA iN iC] 54 (0, 0))) (fun _ _ h => h))); go_must (have hRd := own_new0 hO1.out.1); go_must (have hCd : Aside0 (Chg (fun b => (svl (A2, n2, c2)).ownBlock = some b) (w1.alloc (.cells #[.int .i64 r.fn, .int .i64 r.pc, .slice iA iN iC] 54 (0, 0))) (w1.alloc (.cells #[.int .i64 r.fn, .int .i64 r.pc, .slice iA iN iC] 54 (0, 0)))) := ⟨Chg.refl _ _⟩); go_must (have hz1 := Aside0.mk (hc1.alloc (.cells #[.int .i64 r.fn, .int .i64 r.pc, .slice iA iN iC] 54 (0, 0)))); go_must (have hw1 := Aside0.mk hc1.size); go_must (replace oi1 := Aside0.mk (oi1.chg ((Chg.refl (fun _ => False) w1).alloc (.cells #[.int .i64 r.fn, .int .i64 r.pc, .slice iA iN iC] 54 (0, 0))) (fun _ _ h => h))); go_must (clear hc1)) | (at_builtin; go_must (refine app1H kRF rfl (.tmp 17) (.tmp 19) rfl Try.underlying49 infoRF rfl (by decide) (by decide) ⟨r.fn, r.pc, (iA, iN, iC)⟩ rfl rfl (by simp) (kRF_M _ _ _ _) hRd hCd hl ?_); go_must (intro v1 w2 hr2 hc2); go_must (obtain ⟨A4, n4, c4, rfl⟩ := R_sl hr2.out)))
      go_roundw
      case measure => first | (simp [intOf]; done) | (simp [intOf]; omega)
      case rel =>
        have hfin : Chg (fun b => (svl (A2, n2, c2)).ownBlock = some b) wr w2 := (hz1.out.mono (fun _ _ h => h.elim)).trans hc2.out (fun _ _ h => h)
        have hlo := hCh.out.size
        have hO4 := Aside0.mk (Ow.app (v1 := (A4, n4, c4)) rfl hO1.out hr2.out (Nat.le_trans hlo hz1.out.size))
        refine ⟨k + 1, A4, n4, c4, rs ++ [(⟨r.fn, r.pc, (iA, iN, iC)⟩ : RF)], rfl, by go_num, by omega, hO4, ⟨?_⟩, ⟨hCh.out.trans hfin (fun b hb h => by have := hO.out.2 b h; omega)⟩⟩
        have hKn := hK.out.hit hfin (Hits.own hO.out (by decide))
        exact pair_step (R := fun (r : RF) (x : QFr) => r.fn = x.fn ∧ r.pc = x.pc ∧ Ow kQV 56 w2 w.heap.size r.slots x.slots) hKn hqA.out ⟨hrw.out.1, hrw.out.2.1, ((oi1.out.chg hc2.out (fun b hb hS => Ow.ne oi1.out hO1.out (by decide) b hb hS)).mono (Nat.le_trans hlo (Nat.le_refl _)))⟩
    · obtain rfl : k = ros.length := by omega
      go_wp2
      go_ret
      have h := hK.out
      rw [List.take_of_length_le (by have := hLA.out; omega)] at h
      exact ⟨(A2, n2, c2), rs, rfl, hO.out, h, hCh.out⟩
/-- Fibers that are copies: each with its frames in a row of its own, and all of these apart. -/
def BC (w : World) (lo : Nat) (Z : List (RB × List RF)) (xs : List QB) : Prop := Z.length = xs.length ∧ ∀ (k : Nat) (z : RB × List RF) (x : QB), Z[k]? = some z → xs[k]? = some x → Ow kRF 54 w lo z.1.frames z.2 ∧ FC w lo z.2 x.frames
def BA (Z : List (RB × List RF)) : Prop := ∀ (i j : Nat) (y z : RB × List RF) (b : Nat), i < j → Z[i]? = some y → Z[j]? = some z → (svl y.1.frames).ownBlock = some b → (svl z.1.frames).ownBlock = some b → False
theorem BC.hit {w w' : World} {lo : Nat} {Z : List (RB × List RF)} {xs : List QB} {S : Nat → Prop} (h : BC w lo Z xs) (hc : Chg S w w') (hh : Hits w lo S [56, 54]) : BC w' lo Z xs :=
  ⟨h.1, fun k z x h1 h2 => by
    obtain ⟨a1, a2⟩ := h.2 k z x h1 h2
    exact ⟨a1.hit hc hh (by decide), a2.hit hc (fun b cs t hb hl he hm => hh b cs t hb hl he (List.mem_cons.2 (.inl (by simpa using hm))))⟩⟩
theorem BC.mono {w : World} {lo lo' : Nat} {Z : List (RB × List RF)} {xs : List QB} (h : BC w lo Z xs) (hl : lo' ≤ lo) : BC w lo' Z xs := ⟨h.1, fun k z x h1 h2 => by
  obtain ⟨a1, a2⟩ := h.2 k z x h1 h2
  exact ⟨a1.mono hl, a2.mono hl⟩⟩
theorem BA.step {w : World} {lo : Nat} {Z : List (RB × List RF)} {xs : List QB} {k : Nat} {z : RB × List RF} (h : BA Z) (hB : BC w lo Z (xs.take k)) (hz : ∀ b, (svl z.1.frames).ownBlock = some b → w.heap.size ≤ b) : BA (Z ++ [z]) := fun i j a b g hij ha hb g1 g2 => by
  have hil : i < (Z ++ [z]).length := (List.getElem?_eq_some_iff.1 ha).1
  have hjl : j < (Z ++ [z]).length := (List.getElem?_eq_some_iff.1 hb).1
  rw [List.length_append, List.length_singleton] at hil hjl
  rcases Nat.lt_or_ge j Z.length with hj | hj
  · rw [List.getElem?_append_left (by omega)] at ha hb
    exact h i j a b g hij ha hb g1 g2
  · rw [List.getElem?_append_left (by omega)] at ha
    rw [List.getElem?_append_right hj, show j - Z.length = 0 by omega] at hb
    simp at hb
    subst hb
    have hx : i < (xs.take k).length := by have := hB.1; omega
    have h1 := ((hB.2 i a _ ha (List.getElem?_eq_getElem hx)).1).lt g g1
    have h2 := hz g g2
    omega
theorem ref_CopyFibers (w : World) (A : Option Addr) (n cap : Nat) (ZI : List (RB × List RF)) (xs : List QB) (hC : Kd.C kRB w A n (ZI.map (·.1))) (hlen : ZI.length = xs.length) (hraw : ∀ (k : Nat) (z : RB × List RF) (x : QB), ZI[k]? = some z → xs[k]? = some x → RawB w z.1 z.2 x) (hn : xs.length ≤ 1048576) (hb : ∀ x ∈ xs, x.frames.length ≤ 1048576 ∧ ∀ y ∈ x.frames, y.slots.length ≤ 1048576) :
    Calls Try.prog 70 #[.slice A n cap] w fun e w' => ∃ (v : SV) (Z : List (RB × List RF)), e = .returned (svl v) ∧ Ow kRB 51 w' w.heap.size v (Z.map (·.1)) ∧ BC w' w.heap.size Z xs ∧ BA Z ∧ Chg (fun _ => False) w w' := by
  have e0 := hC.1
  rw [List.length_map] at e0
  subst e0
  have hCA := Aside0.mk hC
  have hRA := Aside0.mk hraw
  have hbA := Aside0.mk hb
  have hLA := Aside0.mk hlen
  have hnr : ZI.length ≤ 1048576 := by omega
  clear hC hraw hb hlen
  go_enter Try.func70, Try.ntmps70
  go_wp2
  go_loopw [3, 4] (fun v i wr => ∃ (k : Nat) (A2 : Option Addr) (n2 c2 : Nat) (Z : List (RB × List RF)), v = .slice A2 n2 c2 ∧ i = .int .i64 k ∧ k ≤ ZI.length ∧ Aside0 (Ow kRB 51 wr w.heap.size (A2, n2, c2) (Z.map (·.1))) ∧ Aside0 (BC wr w.heap.size Z (xs.take k)) ∧ Aside0 (BA Z) ∧ Aside0 (Chg (fun _ => False) w wr)) (fun _ i _ => ZI.length - (intOf i).toNat)
  case atStart => exact ⟨0, none, 0, 0, [], rfl, rfl, by omega, ⟨Ow.nil _ _ _ _⟩, ⟨rfl, fun k r x h => by simp at h⟩, ⟨fun i j y z b _ h => by simp at h⟩, ⟨Chg.refl _ _⟩⟩
  case round =>
    obtain ⟨k, A2, n2, c2, Z, rfl, rfl, hk, hO, hK, hBA, hCh⟩ := hrel
    by_cases hlt : k < ZI.length
    · obtain ⟨ad, r, e1, e2, x0⟩ := atRB (C_chg hCA.out (hCh.out.below (fun _ _ h => h))) k hlt
      subst e1
      have hk0 : (0 : Int) ≤ k := by omega
      have hk1 : (k : Int) < ZI.length := by omega
      obtain ⟨z, hz⟩ : ∃ z, ZI[k]? = some z := ⟨_, List.getElem?_eq_getElem hlt⟩
      rw [List.getElem?_map, hz, Option.map_some] at e2
      injection e2 with e2
      obtain ⟨q, hq⟩ : ∃ q, xs[k]? = some q := ⟨_, List.getElem?_eq_getElem (by have := hLA.out; omega)⟩
      have hrw := Aside0.mk ((hRA.out k z q hz hq).below (hCh.out.below (fun _ _ h => h)))
      rw [e2] at hrw
      have hqb := Aside0.mk (hbA.out q (List.mem_of_getElem? hq))
      have hqA := Aside0.mk hq
      have hrl := Aside0.mk hK.out.1
      clear e2 hq hz
      have hl : Aside0 (((Z.map (·.1)).length + 1) * 24 ≤ 140737488355328) := ⟨by have := hrl.out; rw [List.length_take] at this; rw [List.length_map]; omega⟩
      go_wp2_with (first | (go_at_call 90; go_must (refine (ref_CopyFrames _ r.frames.1 r.frames.2.1 r.frames.2.2 z.2 q.frames hrw.out.1 hrw.out.2.1 hrw.out.2.2 hqb.out.1 hqb.out.2).mono ?_); go_must (rintro e w1 ⟨⟨iA, iN, iC⟩, rs1, rfl, oi1, of1, hc1⟩); go_must (simp only [svl]); go_must (have hO1 := Aside0.mk (hO.out.chg hc1 (fun _ _ h => h))); go_must (have hRd := own_new0 hO1.out.1); go_must (have hCd : Aside0 (Chg (fun b => (svl (A2, n2, c2)).ownBlock = some b) w1 w1) := ⟨Chg.refl _ _⟩); go_must (have hz1 := Aside0.mk hc1); go_must (clear hc1)) | (at_builtin; go_must (refine app1 kRB rfl (.tmp 18) (.tmp 21) rfl Try.underlying38 infoRB rfl (by decide) (by decide) ⟨(iA, iN, iC)⟩ rfl rfl (kRB_M _ _ _ _) hRd hCd hl ?_); go_must (intro v1 w2 hr2 hc2); go_must (obtain ⟨A4, n4, c4, rfl⟩ := R_sl hr2.out)))
      go_roundw
      case measure => first | (simp [intOf]; done) | (simp [intOf]; omega)
      case rel =>
        have hfin : Chg (fun b => (svl (A2, n2, c2)).ownBlock = some b) wr w2 := (hz1.out.mono (fun _ _ h => h.elim)).trans hc2.out (fun _ _ h => h)
        have hlo := hCh.out.size
        have hO4 := Ow.app (v1 := (A4, n4, c4)) rfl hO1.out hr2.out (Nat.le_trans hlo hz1.out.size)
        have hmap : (Z.map (·.1)) ++ [(⟨(iA, iN, iC)⟩ : RB)] = ((Z ++ [((⟨(iA, iN, iC)⟩ : RB), rs1)]).map (·.1)) := by simp
        rw [hmap] at hO4
        refine ⟨k + 1, A4, n4, c4, Z ++ [((⟨(iA, iN, iC)⟩ : RB), rs1)], rfl, by go_num, by omega, ⟨hO4⟩, ⟨?_⟩, ⟨hBA.out.step hK.out (fun b hb => oi1.2 b hb)⟩, ⟨hCh.out.trans hfin (fun b hb h => by have := hO.out.2 b h; omega)⟩⟩
        have hKn := hK.out.hit hfin (Hits.own hO.out (by decide))
        have hh : Hits w1 wr.heap.size (fun b => (svl (A2, n2, c2)).ownBlock = some b) [56] := Hits.own hO1.out (by decide)
        exact pair_step (R := fun (z : RB × List RF) (x : QB) => Ow kRF 54 w2 w.heap.size z.1.frames z.2 ∧ FC w2 w.heap.size z.2 x.frames) hKn hqA.out ⟨(oi1.chg hc2.out (fun b hb hS => Ow.ne oi1 hO1.out (by decide) b hb hS)).mono hlo, (of1.hit hc2.out hh).mono hlo⟩
    · obtain rfl : k = ZI.length := by omega
      go_wp2
      go_ret
      have h := hK.out
      rw [List.take_of_length_le (by have := hLA.out; omega)] at h
      exact ⟨(A2, n2, c2), Z, rfl, hO.out, h, hBA.out, hCh.out⟩
end Go.Proofs.Ytdoghjmanogelaa.K
