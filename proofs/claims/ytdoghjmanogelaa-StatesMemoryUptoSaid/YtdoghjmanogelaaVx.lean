import Derived.Test.YtdoghjmanogelaaVa
import Derived.Test.YtdoghjmanogelaaUh
import Derived.IntWalk
import Derived.BigQuiet
import Derived.Test.YtdoghjmanogelaaSh
import Derived.Test.YtdoghjmanogelaaSz
namespace Go.Proofs.Ytdoghjmanogelaa.K
open Go.RowKit Go.Proofs.YtdoghjmanogelaaW.PrintWords Go.Proofs.YtdoghjmanogelaaW.PrintLast Go.Proofs.YtdoghjmanogelaaW.PrintMore
set_option linter.unusedVariables false
set_option linter.unusedSimpArgs false
set_option maxRecDepth 100000
section
variable {α : Type} {d : Kd α} {e t T : TypeId} {M : World → Nat → Nat → α → Prop} {W W' w1 : World} {p g r gv : SV} {vs gs : List SV} {xs : List α} {k m n i : Nat} {S : Nat → Prop}
abbrev RowG (d : Kd α) (e : TypeId) (W : World) (p : SV) (xs : List α) : Prop := Kd.R d e W 0 (fun b => some b = (slv p).ownBlock) (slv p) xs
theorem RowG.len (h : RowG d e W p xs) : p.2.1 = xs.length := by
  obtain ⟨h1, _, _⟩ := Kd.R_reads' h
  exact h1
theorem RowG.head (h : RowG d e W p xs) (h0 : 0 < xs.length) : ∃ g, p.1 = some ⟨g, 0, none⟩ ∧ (slv p).ownBlock = some g := by
  obtain ⟨g, cap, e, _⟩ := Kd.R_form h h0
  unfold slv at e
  injection e with e1 e2 e3
  exact ⟨g, e1, by unfold slv; rw [e1]; rfl⟩
theorem RowG.toC (h : RowG d e W p xs) : Kd.C d W p.1 p.2.1 xs := by
  obtain ⟨h1, _, h3⟩ := Kd.R_reads' h
  rw [← h1] at h3
  exact h3
theorem RowG.chg (h : RowG d e W p xs) (hc : Chg S W W') (hS : ∀ b, (slv p).ownBlock = some b → ¬ S b) : RowG d e W' p xs := R_chg h hc (fun b _ hb hs => hS b hb.symm hs)
theorem RowG.lt (h : RowG d e W p xs) : ∀ b, (slv p).ownBlock = some b → b < W.heap.size := Kd.R_lt h
theorem RowG.cut {P : Option Addr} {m n c : Nat} (h : RowG d e W (P, m, c) xs) (hn : n ≤ xs.length) : RowG d e W (P, n, c) (xs.take n) := by
  cases P with
  | none => exact Kd.R_take (A := none) h hn
  | some a => exact Kd.R_take (A := some a) h hn
theorem RowG.ow (h : RowG d e W p xs) : Ow d e W 0 p xs := ⟨h, fun _ _ => Nat.zero_le _⟩
def RowM (d : Kd α) (e : TypeId) (M : World → Nat → Nat → α → Prop) (W : World) (k m : Nat) (p : SV) : Prop := ∃ xs, RowG d e W p xs ∧ ∀ i x, i < m → xs[i]? = some x → M W k i x
def Kp (M : World → Nat → Nat → α → Prop) (T : TypeId) : Prop := ∀ (S : Nat → Prop) (W W' : World) (k i : Nat) (x : α), Chg S W W' → (∀ b cs, S b → W.heap[b]? ≠ some (.cells cs T (0, 0))) → M W k i x → M W' k i x
theorem RowM.chg (hM : Kp M T) (h : RowM d e M W k m p) (hc : Chg S W W') (hS : ∀ b, (slv p).ownBlock = some b → ¬ S b) (hT : ∀ b cs, S b → W.heap[b]? ≠ some (.cells cs T (0, 0))) : RowM d e M W' k m p := by
  obtain ⟨xs, h1, h2⟩ := h
  exact ⟨xs, h1.chg hc hS, fun i x hi hx => hM S W W' k i x hc hT (h2 i x hi hx)⟩
theorem RowM.mono (h : RowM d e M W k m p) (hn : n ≤ m) : RowM d e M W k n p := by
  obtain ⟨xs, h1, h2⟩ := h
  exact ⟨xs, h1, fun i x hi hx => h2 i x (by omega) hx⟩
theorem RowM.lt (h : RowM d e M W k m p) : ∀ b, (slv p).ownBlock = some b → b < W.heap.size := by
  obtain ⟨xs, h1, h2⟩ := h
  exact h1.lt
theorem RowM.head (h : RowM d e M W k m p) (h0 : 0 < p.2.1) : ∃ g, p.1 = some ⟨g, 0, none⟩ ∧ (slv p).ownBlock = some g := by
  obtain ⟨xs, h1, h2⟩ := h
  exact h1.head (by rw [← h1.len]; exact h0)
theorem RowM.at (h : RowM d e M W k m p) (hi : i < m) (hn : i < p.2.1) : ∃ xs x, RowG d e W p xs ∧ xs[i]? = some x ∧ M W k i x := by
  obtain ⟨xs, h1, h2⟩ := h
  have hx : xs[i]? = some (xs[i]'(by rw [← h1.len]; exact hn)) := List.getElem?_eq_getElem _
  exact ⟨xs, _, h1, hx, h2 i _ hi hx⟩
theorem RowM.typed (h : RowM d e M W k m p) : ∀ b, (slv p).ownBlock = some b → ∃ cs, W.heap[b]? = some (.cells cs e (0, 0)) := by
  obtain ⟨xs, h1, h2⟩ := h
  exact Kd.R_typed h1
theorem RowM.not (h : RowM d e M W k m p) (he : e ≠ T) : ∀ b cs, (slv p).ownBlock = some b → W.heap[b]? ≠ some (.cells cs T (0, 0)) := by
  intro b cs hb hc
  obtain ⟨cs', h2⟩ := h.typed b hb
  rw [h2] at hc
  injection hc with hc
  injection hc with _ hc
  exact he hc
theorem RowM.snoc (hM : Kp M T) (h : RowM d e M W k i p) (hl : p.2.1 = i) {p' : SV} {x : α} (h1 : RowG d e W' p xs → True) (hxs : ∀ ys, RowG d e W p ys → RowG d e W' p' (ys ++ [x])) (hc : Chg S W W') (hT : ∀ b cs, S b → W.heap[b]? ≠ some (.cells cs T (0, 0))) (hx : M W' k i x) : RowM d e M W' k (i + 1) p' := by
  obtain ⟨ys, h2, h3⟩ := h
  refine ⟨ys ++ [x], hxs ys h2, fun j y hj hy => ?_⟩
  have hyl : ys.length = i := by rw [← h2.len, hl]
  rcases Nat.lt_or_ge j ys.length with hj2 | hj2
  · rw [List.getElem?_append_left hj2] at hy
    exact hM S W W' k j y hc hT (h3 j y (by omega) hy)
  · rw [List.getElem?_append_right hj2] at hy
    have hj0 : j = i := by omega
    subst hj0
    rw [hyl, Nat.sub_self] at hy
    injection hy with hy
    subst hy
    exact hx
theorem RowM.put (hM : Kp M T) (h : RowM d e M W k i p) (hi : i < p.2.1) {x : α} (hxs : ∀ ys, RowG d e W p ys → RowG d e W' p (ys.set i x)) (hc : Chg S W W') (hT : ∀ b cs, S b → W.heap[b]? ≠ some (.cells cs T (0, 0))) (hx : M W' k i x) : RowM d e M W' k (i + 1) p := by
  obtain ⟨ys, h2, h3⟩ := h
  refine ⟨ys.set i x, hxs ys h2, fun j y hj hy => ?_⟩
  have hyl := h2.len
  by_cases hji : j = i
  · subst hji
    rw [List.getElem?_set_self (by omega)] at hy
    injection hy with hy
    subst hy
    exact hx
  · rw [List.getElem?_set_ne (Ne.symm hji)] at hy
    exact hM S W W' k j y hc hT (h3 j y (by omega) hy)
abbrev RowSv (t : TypeId) (W : World) (gv : SV) (gs : List SV) : Prop := Kd.R kSl t W 0 (fun b => some b = (slv gv).ownBlock) (slv gv) gs
theorem rowSv_ne (h : RowSv t W gv gs) (hr : RowM d e M W k m r) (he : t ≠ e) : ∀ b, (slv r).ownBlock = some b → (slv gv).ownBlock ≠ some b := by
  intro b hb hg
  obtain ⟨c1, e1⟩ := Kd.R_typed h b hg
  exact hr.not (Ne.symm he) b c1 hb e1
structure BesideM (d : Kd α) (e t : TypeId) (M : World → Nat → Nat → α → Prop) (W : World) (vs gs : List SV) (gv : SV) (k : Nat) : Prop where
  gr : RowSv t W gv gs
  ps : ∀ (j : Nat) (p : SV), vs[j]? = some p → j ≠ k → RowM d e M W j p.2.1 p
  qs : ∀ (j : Nat) (p q : SV), vs[j]? = some p → gs[j]? = some q → RowM d e M W j (p.2.1 + 64) q ∧ q.2.1 = p.2.1 + 64
theorem BesideM.chg (hM : Kp M T) (h : BesideM d e t M W vs gs gv k) (hc : Chg S W W') (hT : ∀ b cs, S b → W.heap[b]? ≠ some (.cells cs T (0, 0))) (hS : ∀ b, S b → NotOf vs gs gv k b) : BesideM d e t M W' vs gs gv k :=
  ⟨R_chg h.gr hc (fun b _ hb hs => (hS b hs).gr hb.symm), fun j p hp hj => (h.ps j p hp hj).chg hM hc (fun b hb hs => (hS b hs).ps j p hp hj hb) hT, fun j p q hp hq => ⟨(h.qs j p q hp hq).1.chg hM hc (fun b hb hs => (hS b hs).qs j q hq hb) hT, (h.qs j p q hp hq).2⟩⟩
def AltM (d : Kd α) (e : TypeId) (M : World → Nat → Nat → α → Prop) (W : World) (k N n i c : Nat) (P : Option Addr) (g : SV) : Prop := g = (P, n + i, c) ∨ ((∃ b, (slv g).ownBlock = some b ∧ N ≤ b) ∧ RowM d e M W k n (P, n, c))
theorem AltM.own {N c : Nat} {P : Option Addr} (h : AltM d e M W k N n i c P g) : ∀ b, (slv g).ownBlock = some b → (slv (P, n, c)).ownBlock = some b ∨ N ≤ b := own_alt h
theorem AltM.row {N c : Nat} {P : Option Addr} (h : AltM d e M W k N n i c P g) (hX : RowM d e M W k (n + i) g) (hl : g.2.1 = n + i) : RowM d e M W k n (P, n, c) := by
  rcases h with h | ⟨_, h⟩
  · subst h
    obtain ⟨xs, h1, h2⟩ := hX
    have hxl : n + i = xs.length := h1.len
    refine ⟨xs.take n, h1.cut (by omega), fun j x hj hx => h2 j x (by omega) ?_⟩
    rwa [List.getElem?_take_of_lt hj] at hx
  · exact h
theorem AltM.chg (hM : Kp M T) {N c : Nat} {P : Option Addr} (h : AltM d e M W k N n i c P g) (hc : Chg S W W') (hT : ∀ b cs, S b → W.heap[b]? ≠ some (.cells cs T (0, 0))) (hS : ∀ b, (slv (P, n, c)).ownBlock = some b → ¬ S b) : AltM d e M W' k N n i c P g := by
  rcases h with h | ⟨h1, h2⟩
  · exact Or.inl h
  · exact Or.inr ⟨h1, h2.chg hM hc hS hT⟩
theorem AltM.step (hM : Kp M T) {N c n1 c1 : Nat} {P A1 : Option Addr} (h : AltM d e M W k N n i c P g) (hX : RowM d e M W k (n + i) g) (hl : g.2.1 = n + i) (he : e ≠ T) (hNW : N ≤ W.heap.size) (hpl : ∀ b, (slv (P, n, c)).ownBlock = some b → b < N)
    (hc1 : Chg (fun b => (slv g).ownBlock = some b) W w1)
    (halt : (∃ gb cc, slv g = .slice (some ⟨gb, 0, none⟩) (n + i) cc ∧ Value.slice A1 n1 c1 = .slice (some ⟨gb, 0, none⟩) (n + i + 1) cc) ∨ (Chg (fun _ => False) W w1 ∧ ∃ b, (Value.slice A1 n1 c1).ownBlock = some b ∧ W.heap.size ≤ b)) :
    AltM d e M w1 k N n (i + 1) c P (A1, n1, c1) := by
  have hT := hX.not he
  rcases halt with ⟨gb, cc, e1, e2⟩ | ⟨hq, b, hb, hW⟩
  · injection e2 with f1 f2 f3
    have hog : (slv g).ownBlock = some gb := by rw [e1]; rfl
    rcases h with h | ⟨⟨b, h1, h2⟩, h3⟩
    · subst h
      unfold slv at e1
      injection e1 with g1 g2 g3
      left
      simp only at g1 g3
      rw [f1, f2, f3, g1, g3]
      rfl
    · right
      refine ⟨⟨gb, by unfold slv; simp only; rw [f1]; rfl, ?_⟩, h3.chg hM hc1 (fun b' hb' h' => ?_) (fun b cs hb => hT b cs hb)⟩
      · rw [hog] at h1; injection h1 with h1; omega
      · have := hpl b' hb'
        rw [h'] at h1; injection h1 with h1; omega
  · right
    exact ⟨⟨b, hb, by omega⟩, (h.row hX hl).chg hM hq (fun _ _ h => h) (fun _ _ h => h.elim)⟩
theorem AltM.news {N N' c : Nat} {P : Option Addr} (hM : N' ≤ N) (h : AltM d e M W k N n i c P g) : (slv g).ownBlock = (slv (P, n, c)).ownBlock ∨ ∃ b, (slv g).ownBlock = some b ∧ N' ≤ b := alt_own hM h
def RowsM (d : Kd α) (e : TypeId) (M : World → Nat → Nat → α → Prop) (W : World) (vs : List SV) (k : Nat) : Prop := ∀ (j : Nat) (p : SV), vs[j]? = some p → RowM d e M W j (if j < k then p.2.1 else 0) p
theorem RowM.zero (h : RowG d e W p xs) : RowM d e M W k 0 p := ⟨xs, h, fun i x hi _ => by omega⟩
theorem RowM.plain (h : RowM d e M W k m p) : RowM d e M W i 0 p := by
  obtain ⟨xs, h1, _⟩ := h
  exact RowM.zero h1
theorem RowM.all (h : RowM d e M W k m p) (hm : m ≤ p.2.1) (hm2 : p.2.1 ≤ m) : RowM d e M W k p.2.1 p := by
  obtain rfl : m = p.2.1 := Nat.le_antisymm hm hm2
  exact h
end
end Go.Proofs.Ytdoghjmanogelaa.K

namespace Go.Proofs.Ytdoghjmanogelaa.K
open Go.RowKit Go.Proofs.YtdoghjmanogelaaW.PrintWords Go.Proofs.YtdoghjmanogelaaW.PrintLast Go.Proofs.YtdoghjmanogelaaW.PrintMore
set_option linter.unusedVariables false
set_option linter.unusedSimpArgs false
set_option maxRecDepth 100000
theorem RowG.cellN {α : Type} {d : Kd α} {e : TypeId} {W : World} {g n c i j m : Nat} {xs : List α} (hm : d.sz = m) (h : RowG d e W (some ⟨g, 0, none⟩, n, c) xs) (hi : i < n) (hj : j < m) : ∃ u, W.cell? ⟨g, i * m + j, none⟩ = some u ∧ W.frozen? ⟨g, i * m + j, none⟩ = false := by
  subst hm
  have hn := h.len
  simp only at hn
  obtain ⟨h0, inner, ho, hrp⟩ := h
  rcases ho.2 with ⟨h1, _⟩ | ⟨g', cap', cur, hv, _, hg, hnc, hcm, hcs, ht⟩
  · cases h1
  · unfold slv at hv
    injection hv with e1 e2 e3
    injection e1 with e1
    injection e1 with e1 _ _
    subst e1 e3
    have hl : inner.length = xs.length * d.sz := ho.1
    have hfit : i * d.sz + d.sz ≤ inner.length := by rw [hl, ← Nat.succ_mul]; exact Nat.mul_le_mul_right _ (by omega)
    have hc : inner.length ≤ cur.size := by
      have h3 := congrArg List.length ht
      have h4 : cur.toList.length = cur.size := Array.length_toList
      rw [List.length_take] at h3
      omega
    exact ⟨cur[i * d.sz + j]'(by omega), by rw [blk_cell hg]; exact Array.getElem?_eq_getElem _, blk_frozen hg _⟩
theorem infoApartRowsL : (Try.prog.info? 37).map (fun i => (i.zero, i.size, i.bytes)) = some (some (.slice none 0 0), 1, 24) := by kernel_rfl
def MRow (W : World) (k i : Nat) (x : RO) : Prop := x.kind = 100 + (k : Int) ∧ x.fn = (i : Int)
theorem kpRow : Kp MRow 5 := fun _ _ _ _ _ _ _ _ h => h
theorem cellN_RO {W : World} {k m g n c i j : Nat} {M : World → Nat → Nat → RO → Prop} (h : RowM kRO 59 M W k m (some ⟨g, 0, none⟩, n, c)) (hi : i < n) (hj : j < 6) : ∃ u, W.cell? ⟨g, i * 6 + j, none⟩ = some u ∧ W.frozen? ⟨g, i * 6 + j, none⟩ = false := by
  obtain ⟨xs, h1, _⟩ := h
  exact h1.cellN rfl hi hj
theorem cell_Row {W : World} {k m g n c i : Nat} (h : RowM kRO 59 MRow W k m (some ⟨g, 0, none⟩, n, c)) (hm : i < m) (hi : i < n) : W.cell? ⟨g, i * 6, none⟩ = some (.int .i64 (100 + (k : Int))) ∧ W.cell? ⟨g, i * 6 + 3, none⟩ = some (.int .i64 (i : Int)) := by
  obtain ⟨xs, x, h1, hx, h2, h3⟩ := h.at hm hi
  obtain ⟨c0, _, _, c3, _⟩ := ownRO h1.toC i hi hx
  rw [h2] at c0
  rw [h3] at c3
  exact ⟨c0, c3⟩
theorem RowG.put6 {W : World} {g n c i : Nat} {xs : List RO} (x : RO) (h : RowG kRO 59 W (some ⟨g, 0, none⟩, n, c) xs) (hi : i < n) : RowG kRO 59 ((((((W.setCell ⟨g, i * 6, none⟩ (.int .i64 x.kind)).setCell ⟨g, i * 6 + 1, none⟩ (.slice x.items.1 x.items.2.1 x.items.2.2)).setCell ⟨g, i * 6 + 2, none⟩ (.slice x.keys.1 x.keys.2.1 x.keys.2.2)).setCell ⟨g, i * 6 + 3, none⟩ (.int .i64 x.fn)).setCell ⟨g, i * 6 + 4, none⟩ (.int .i64 x.cap)).setCell ⟨g, i * 6 + 5, none⟩ (.bool x.shut)) (some ⟨g, 0, none⟩, n, c) (xs.set i x) := by
  have hl : i < xs.length := by rw [← h.len]; exact hi
  obtain ⟨⟨k0, i0, s0, f0, c0, u0⟩, hr⟩ : ∃ r, xs[i]? = some r := ⟨_, List.getElem?_eq_getElem hl⟩
  obtain ⟨k1, i1, s1, f1, c1, u1⟩ := x
  have p0 := Ow.put (j := 0) (m := 6) (u := .int .i64 k1) (r' := ⟨k1, i0, s0, f0, c0, u0⟩) kRO_K kRO_M rfl h.ow hr rfl (by decide)
  have p1 := Ow.put (j := 1) (m := 6) (u := .slice i1.1 i1.2.1 i1.2.2) (r' := ⟨k1, i1, s0, f0, c0, u0⟩) kRO_K kRO_M rfl p0 (List.getElem?_set_self hl) rfl (by decide)
  rw [List.set_set] at p1
  have p2 := Ow.put (j := 2) (m := 6) (u := .slice s1.1 s1.2.1 s1.2.2) (r' := ⟨k1, i1, s1, f0, c0, u0⟩) kRO_K kRO_M rfl p1 (List.getElem?_set_self hl) rfl (by decide)
  rw [List.set_set] at p2
  have p3 := Ow.put (j := 3) (m := 6) (u := .int .i64 f1) (r' := ⟨k1, i1, s1, f1, c0, u0⟩) kRO_K kRO_M rfl p2 (List.getElem?_set_self hl) rfl (by decide)
  rw [List.set_set] at p3
  have p4 := Ow.put (j := 4) (m := 6) (u := .int .i64 c1) (r' := ⟨k1, i1, s1, f1, c1, u0⟩) kRO_K kRO_M rfl p3 (List.getElem?_set_self hl) rfl (by decide)
  rw [List.set_set] at p4
  have p5 := Ow.put (j := 5) (m := 6) (u := .bool u1) (r' := ⟨k1, i1, s1, f1, c1, u1⟩) kRO_K kRO_M rfl p4 (List.getElem?_set_self hl) rfl (by decide)
  rw [List.set_set] at p5
  exact p5.1
set_option maxHeartbeats 4000000
theorem kit_ApartRows (w : World) (A : Option Addr) (N cap B : Nat) (vs : List SV) (hN : vs.length = N) (hNb : N ≤ 1099511627776) (hA : 0 < N → A = some ⟨B, 0, none⟩) (hH : ∀ (k : Nat) (p : SV), vs[k]? = some p → w.cell? ⟨B, k, none⟩ = some (slv p)) (hB : ¬ OwnS vs B)
    (hrow : ∀ (k : Nat) (p : SV), vs[k]? = some p → p.2.1 ≤ 1099511627776 ∧ ∃ xs, RowG kRO 59 w p xs) (hD : Disj vs) :
    Calls Try.prog 31 #[.slice A N cap] w fun e w' => e = .returned (.bool true) ∧ Chg (OwnS vs) w w' := by
  have hHA := Aside0.mk hH
  have hrA := Aside0.mk hrow
  have hDA := Aside0.mk hD
  have hBA := Aside0.mk hB
  have hAA := Aside0.mk hA
  have hNA := Aside0.mk hN
  clear hH hrow hD hB hA hN
  go_enter Try.func31, Try.ntmps31
  go_wp2
  go_loopw [4, 5] (fun ik _ wr => ∃ k : Nat, ik = .int .i64 k ∧ k ≤ N ∧ Aside0 (RowsM kRO 59 MRow wr vs k) ∧ Aside0 (Chg (OwnS vs) w wr)) (fun ik _ _ => N - (intOf ik).toNat)
  case atStart => exact ⟨0, rfl, by omega, ⟨fun j p hp => by obtain ⟨_, xs, h⟩ := hrA.out j p hp; exact RowM.zero h⟩, ⟨Chg.refl _ _⟩⟩
  case round =>
    obtain ⟨k, rfl, hk, hR, hCh⟩ := hrel
    by_cases hlt : k < N
    · skip
      obtain ⟨p, hp⟩ : ∃ p, vs[k]? = some p := ⟨vs[k]'(by have := hNA.out; omega), List.getElem?_eq_getElem (by have := hNA.out; omega)⟩
      obtain ⟨hpn, _⟩ := hrA.out k p hp
      obtain rfl := hAA.out (by omega)
      have x0 : wr.cell? ⟨B, k, none⟩ = some (.slice p.1 p.2.1 p.2.2) := cell_keep hCh.out hBA.out (hHA.out k p hp)
      have hk0 : (0 : Int) ≤ k := by omega
      have hk1 : (k : Int) < N := by omega
      have hpA := Aside0.mk hp
      obtain ⟨P, n, c⟩ := p
      simp only at hpn x0
      clear hp
      go_wp2
      go_loopw [5] (fun ii w2 => ∃ i : Nat, ii = .int .i64 i ∧ i ≤ n ∧ Aside0 (RowM kRO 59 MRow w2 k i (P, n, c)) ∧ Aside0 (∀ (j : Nat) (p : SV), vs[j]? = some p → j ≠ k → RowM kRO 59 MRow w2 j (if j < k then p.2.1 else 0) p) ∧ Aside0 (Chg (OwnS vs) w w2)) (fun ii _ => n - (intOf ii).toNat)
      case atStart => exact ⟨0, rfl, by omega, ⟨(hR.out k _ hpA.out).mono (Nat.zero_le _)⟩, ⟨fun j p hp _ => hR.out j p hp⟩, hCh⟩
      case round =>
        obtain ⟨i, rfl, hi, hX, hO, hC2⟩ := hrel
        have x1 : wr.cell? ⟨B, k, none⟩ = some (.slice P n c) := cell_keep hC2.out hBA.out (hHA.out k _ hpA.out)
        by_cases hil : i < n
        · have hX0 := hX.out
          obtain ⟨xs, h1, h2⟩ := hX0
          have hlen := h1.len
          simp only at hlen
          obtain ⟨g, e1, e2⟩ := h1.head (by omega)
          simp only at e1
          subst e1
          clear h1 h2
          have hi0 : (0 : Int) ≤ i := by omega
          have hi1 : (i : Int) < n := by omega
          have e2A := Aside0.mk e2
          clear e2 hlen
          have hz3 : Aside0 (Chg (fun _ => False) wr wr) := ⟨Chg.refl _ _⟩
          obtain ⟨u0, c0, f0⟩ := cellN_RO hX.out (by simpa using hil) (show 0 < 6 by decide)
          obtain ⟨u1, c1, f1⟩ := cellN_RO hX.out (by simpa using hil) (show 1 < 6 by decide)
          obtain ⟨u2, c2, f2⟩ := cellN_RO hX.out (by simpa using hil) (show 2 < 6 by decide)
          obtain ⟨u3, c3, f3⟩ := cellN_RO hX.out (by simpa using hil) (show 3 < 6 by decide)
          obtain ⟨u4, c4, f4⟩ := cellN_RO hX.out (by simpa using hil) (show 4 < 6 by decide)
          obtain ⟨u5, c5, f5⟩ := cellN_RO hX.out (by simpa using hil) (show 5 < 6 by decide)
          simp only [Nat.add_zero] at c0 f0
          have hwk : IntKind.i64.wrap (100 + (k : Int)) = 100 + (k : Int) := by simp [IntKind.wrap, IntKind.bits, IntKind.signed]; omega
          have hC3 := Aside0.mk (hC2.out.trans hz3.out (fun _ _ h => h.elim))
          have hX1 : Aside0 (RowM kRO 59 MRow wr k i (some ⟨g, 0, none⟩, n, c)) := ⟨hX.out.chg kpRow hz3.out (fun _ _ h => h) (fun _ _ h => h.elim)⟩
          have hTg : Aside0 (∀ b cs, b = g → wr.heap[b]? ≠ some (.cells cs 5 (0, 0))) := ⟨fun b cs hb => by subst hb; exact hX1.out.not (by decide) _ cs e2A.out⟩
          have hcs : Aside0 (Chg (fun b => b = g) wr ((((((wr.setCell ⟨g, i * 6, none⟩ (.int .i64 (100 + (k : Int)))).setCell ⟨g, i * 6 + 1, none⟩ (.slice none 0 0)).setCell ⟨g, i * 6 + 2, none⟩ (.slice none 0 0)).setCell ⟨g, i * 6 + 3, none⟩ (.int .i64 (i : Int))).setCell ⟨g, i * 6 + 4, none⟩ (.int .i64 0)).setCell ⟨g, i * 6 + 5, none⟩ (.bool false))) := ⟨((((((Chg.refl (fun b => b = g) wr).setCell (p := ⟨g, i * 6, none⟩) (fun _ => rfl) _).setCell (p := ⟨g, i * 6 + 1, none⟩) (fun _ => rfl) _).setCell (p := ⟨g, i * 6 + 2, none⟩) (fun _ => rfl) _).setCell (p := ⟨g, i * 6 + 3, none⟩) (fun _ => rfl) _).setCell (p := ⟨g, i * 6 + 4, none⟩) (fun _ => rfl) _).setCell (p := ⟨g, i * 6 + 5, none⟩) (fun _ => rfl) _⟩
          have hX2 : Aside0 (RowM kRO 59 MRow ((((((wr.setCell ⟨g, i * 6, none⟩ (.int .i64 (100 + (k : Int)))).setCell ⟨g, i * 6 + 1, none⟩ (.slice none 0 0)).setCell ⟨g, i * 6 + 2, none⟩ (.slice none 0 0)).setCell ⟨g, i * 6 + 3, none⟩ (.int .i64 (i : Int))).setCell ⟨g, i * 6 + 4, none⟩ (.int .i64 0)).setCell ⟨g, i * 6 + 5, none⟩ (.bool false)) k (i + 1) (some ⟨g, 0, none⟩, n, c)) := ⟨hX1.out.put kpRow hil (x := ⟨100 + (k : Int), (none, 0, 0), (none, 0, 0), (i : Int), 0, false⟩) (fun ys hy => RowG.put6 ⟨100 + (k : Int), (none, 0, 0), (none, 0, 0), (i : Int), 0, false⟩ hy hil) hcs.out hTg.out ⟨rfl, rfl⟩⟩
          go_wp2
          go_roundw
          case measure => first | (simp [intOf]; done) | (simp [intOf]; omega)
          case rel =>
            refine ⟨i + 1, by go_num, by omega, hX2, ⟨fun j p hp hj => ?_⟩, ⟨hC3.out.trans hcs.out (fun b _ h => ⟨k, _, hpA.out, h ▸ e2A.out⟩)⟩⟩
            exact ((hO.out j p hp hj).chg kpRow hz3.out (fun _ _ h => h) (fun _ _ h => h.elim)).chg kpRow hcs.out (fun b hb h => by subst h; exact hDA.out k j _ p _ hpA.out hp (Ne.symm hj) e2A.out hb) hTg.out
        · obtain rfl : i = n := by omega
          go_wp2
          go_roundw
          case measure => first | (simp [intOf]; done) | (simp [intOf]; omega)
          case rel =>
            refine ⟨k + 1, by go_num, by omega, ⟨fun j p hp => ?_⟩, hC2⟩
            by_cases hj : j = k
            · subst hj
              rw [hpA.out] at hp
              injection hp with hp
              subst hp
              rw [if_pos (by omega)]
              exact hX.out
            · have := hO.out j p hp hj
              by_cases hjk : j < k
              · rw [if_pos hjk] at this
                rw [if_pos (by omega)]
                exact this
              · rw [if_neg hjk] at this
                rw [if_neg (by omega)]
                exact this
    · have hkN : N = k := by omega
      subst hkN
      have hR1 : Aside0 (∀ (j : Nat) (p : SV), vs[j]? = some p → RowM kRO 59 MRow wr j p.2.1 p) := ⟨fun j p hp => by
        have h1 := hR.out j p hp
        have hj : j < vs.length := (List.getElem?_eq_some_iff.1 hp).1
        rwa [if_pos (by have := hNA.out; omega)] at h1⟩
      clear hR
      go_wp2
      go_loopw [3, 6, 7, 8] (fun v5 i6 _ _ w2 => ∃ (k : Nat) (gs : List SV) (gv : SV), i6 = .int .i64 k ∧ v5 = .slice gv.1 gv.2.1 gv.2.2 ∧ k ≤ N ∧ Aside0 (gs.length = k) ∧ Aside0 (RowSv 37 w2 gv gs) ∧ Aside0 (∀ (j : Nat) (p : SV), vs[j]? = some p → RowM kRO 59 MRow w2 j p.2.1 p) ∧
        Aside0 (∀ (j : Nat) (p q : SV), vs[j]? = some p → gs[j]? = some q → (RowM kRO 59 MRow w2 j (p.2.1 + 64) q ∧ q.2.1 = p.2.1 + 64) ∧ ((slv q).ownBlock = (slv p).ownBlock ∨ ∃ b, (slv q).ownBlock = some b ∧ wr.heap.size ≤ b)) ∧ Aside0 (Disj gs) ∧ Aside0 (∀ b, (slv gv).ownBlock = some b → wr.heap.size ≤ b) ∧ Aside0 (Chg (OwnS vs) wr w2)) (fun _ i6 _ _ _ => N - (intOf i6).toNat)
      case atStart => exact ⟨0, [], (none, 0, 0), rfl, rfl, by omega, ⟨rfl⟩, ⟨Kd.R_nil _ _ _ _ _⟩, hR1, ⟨fun j p q _ hq => by cases hq⟩, ⟨fun j k p q b hp => by cases hp⟩, ⟨fun b hb => by cases hb⟩, ⟨Chg.refl _ _⟩⟩
      case round =>
        obtain ⟨k, gs, gv, rfl, rfl, hk, hgl, hG, hP, hQ, hDg, hGn, hCw⟩ := hrel
        by_cases hlt : k < N
        · have hCall := Aside0.mk (hCh.out.trans hCw.out (fun _ _ h => h))
          obtain ⟨p, hp⟩ : ∃ p, vs[k]? = some p := ⟨vs[k]'(by have := hNA.out; omega), List.getElem?_eq_getElem (by have := hNA.out; omega)⟩
          obtain ⟨hpn, _⟩ := hrA.out k p hp
          obtain rfl := hAA.out (by omega)
          have x0 : wr.cell? ⟨B, k, none⟩ = some (.slice p.1 p.2.1 p.2.2) := cell_keep hCall.out hBA.out (hHA.out k p hp)
          have hk0 : (0 : Int) ≤ k := by omega
          have hk1 : (k : Int) < N := by omega
          have hpA := Aside0.mk hp
          have hbes : Aside0 (BesideM kRO 59 37 MRow wr vs gs gv k) := ⟨⟨hG.out, fun j q hq _ => hP.out j q hq, fun j q r hq hr => (hQ.out j q r hq hr).1⟩⟩
          have hvs : Aside0 (∀ (j : Nat) (r : SV), gs[j]? = some r → ∃ q, vs[j]? = some q ∧ j < k) := ⟨fun j r hr => by
            have hj := (List.getElem?_eq_some_iff.1 hr).1
            have h2 := hgl.out
            have h3 := hNA.out
            exact ⟨vs[j]'(by omega), List.getElem?_eq_getElem (by omega), by omega⟩⟩
          have hnot : Aside0 (∀ b, ((slv p).ownBlock = some b ∨ wr.heap.size ≤ b) → NotOf vs gs gv k b) := ⟨fun b hb => by
            refine ⟨fun h => ?_, fun j q hq hj h => ?_, fun j r hr h => ?_⟩
            · rcases hb with hb | hb
              · exact rowSv_ne hG.out (hP.out k p hpA.out) (by decide) b hb h
              · have := Kd.R_lt hG.out b h; omega
            · rcases hb with hb | hb
              · exact hDA.out k j p q b hpA.out hq (Ne.symm hj) hb h
              · have := (hP.out j q hq).lt b h; omega
            · obtain ⟨q, hq, hjk⟩ := hvs.out j r hr
              obtain ⟨⟨h1, _⟩, h2⟩ := hQ.out j q r hq hr
              rcases hb with hb | hb
              · rcases h2 with h2 | ⟨b', h2, h3⟩
                · exact hDA.out j k q p b hq hpA.out (by omega) (h2 ▸ h) hb
                · rw [h] at h2; injection h2 with h2; have := (hR1.out k p hpA.out).lt b hb; omega
              · have := h1.lt b h; omega⟩
          have hRp := Aside0.mk (hP.out k p hpA.out)
          obtain ⟨P, n, c⟩ := p
          simp only at hpn x0
          clear hp
          go_wp2
          go_loopw [7, 8] (fun v7 i8 w3 => ∃ (i : Nat) (g : SV), i8 = .int .i64 i ∧ v7 = .slice g.1 g.2.1 g.2.2 ∧ i ≤ 64 ∧ Aside0 (g.2.1 = n + i) ∧ Aside0 (RowM kRO 59 MRow w3 k (n + i) g) ∧ Aside0 (AltM kRO 59 MRow w3 k wr.heap.size n i c P g) ∧ Aside0 (BesideM kRO 59 37 MRow w3 vs gs gv k) ∧ Aside0 (Chg (fun b => (slv (P, n, c)).ownBlock = some b) wr w3)) (fun _ i8 _ => 64 - (intOf i8).toNat)
          case atStart => exact ⟨0, (P, n, c), rfl, rfl, by omega, ⟨rfl⟩, hRp, ⟨.inl rfl⟩, hbes, ⟨Chg.refl _ _⟩⟩
          case round =>
            obtain ⟨i, g, rfl, rfl, hi, hgn, hX, hAlt, hBe, hC3⟩ := hrel
            have hC4 := Aside0.mk (hCall.out.trans hC3.out (fun b _ h => ⟨k, _, hpA.out, h⟩))
            have x1 : wr.cell? ⟨B, k, none⟩ = some (.slice P n c) := cell_keep hC4.out hBA.out (hHA.out k _ hpA.out)
            by_cases hil : i < 64
            · have hi0 : (0 : Int) ≤ i := by omega
              have hX0 := hX.out
              obtain ⟨xs, h1, h2⟩ := hX0
              have hxl : Aside0 (xs.length = n + i) := ⟨by rw [← h1.len]; exact hgn.out⟩
              have h1A := Aside0.mk h1
              have h2A := Aside0.mk h2
              clear h1 h2
              have hlen : Aside0 ((xs.length + 1) * 80 ≤ 140737488355328) := ⟨by rw [hxl.out]; omega⟩
              have hpn2 := Aside0.mk hpn
              have hz5 : Aside0 (Chg (fun _ => False) wr wr) := ⟨Chg.refl _ _⟩
              have hwk : IntKind.i64.wrap (100 + (k : Int)) = 100 + (k : Int) := by simp [IntKind.wrap, IntKind.bits, IntKind.signed]; omega
              have hO1 : Aside0 (Kd.R kRO 59 wr 0 (New (fun b => (slv g).ownBlock = some b) wr wr) (.slice g.1 g.2.1 g.2.2) xs) := ⟨Kd.R_mono h1A.out (fun b hb => .inl hb.symm)⟩
              have hRef := Aside0.mk (Chg.refl (fun b => (slv g).ownBlock = some b) wr)
              go_wp2_with (at_builtin; refine app1K kRO rfl (.tmp 51) (.tmp 62) rfl Try.underlying37 infoRO rfl (by decide) (by decide) (⟨100 + (k : Int), (none, 0, 0), (none, 0, 0), (n : Int) + (i : Int), 0, false⟩ : RO) rfl rfl (kRO_M _ _ _ _) hO1 hRef hlen ?_; go_must (intro v1 w1 hr1 hc1 halt); go_must (obtain ⟨A1, n1, c1, rfl⟩ := R_sl hr1.out))
              go_roundw
              case measure => first | (simp [intOf]; done) | (simp [intOf]; omega)
              case rel =>
                have hr2 := Kd.R_tight rfl hr1.out
                have hz51 : Chg (fun b => (slv g).ownBlock = some b) wr w1 := (hz5.out.mono (fun _ _ h => h.elim)).trans hc1.out (fun _ _ h => h)
                have hcw := hC3.out.trans hz51 (fun b hlt h => (hAlt.out.own b h).elim id (fun h => absurd hlt (by have := hC3.out.size; omega)))
                have hTw := hX.out.not (T := 5) (by decide)
                have hXz := hX.out.chg kpRow hz5.out (fun _ _ h => h) (fun _ _ h => h.elim)
                have hTz := hXz.not (T := 5) (by decide)
                have hAz := hAlt.out.chg kpRow hz5.out (fun _ _ h => h.elim) (fun _ _ h => h)
                have hBz := hBe.out.chg kpRow hz5.out (fun _ _ h => h.elim) (fun _ h => h.elim)
                refine ⟨i + 1, (A1, n1, c1), by go_num, rfl, by omega, ⟨?_⟩, ⟨?_⟩, ⟨?_⟩, ⟨?_⟩, ⟨?_⟩⟩
                · have := (Kd.R_reads' hr1.out).1
                  simp only [List.length_append, List.length_singleton, hxl.out] at this
                  exact this
                · refine ⟨_, hr2, fun j y hj hy => ?_⟩
                  rcases Nat.lt_or_ge j (n + i) with hj2 | hj2
                  · rw [List.getElem?_append_left (by rw [hxl.out]; exact hj2)] at hy
                    exact kpRow _ _ _ _ _ _ hz51 hTw (h2A.out j y hj2 hy)
                  · rw [List.getElem?_append_right (by rw [hxl.out]; exact hj2)] at hy
                    have hj0 : j = n + i := by omega
                    subst hj0
                    rw [hxl.out, Nat.sub_self] at hy
                    injection hy with hy
                    subst hy
                    exact ⟨rfl, by push_cast; rfl⟩
                · exact hAz.step kpRow hXz hgn.out (by decide) (Nat.le_trans hC3.out.size hz5.out.size) hRp.out.lt hc1.out (by have h0 := halt.out; rw [hxl.out] at h0; exact h0)
                · exact hBz.chg kpRow hc1.out hTz (fun b hb => hnot.out b (hAlt.out.own b hb))
                · exact hcw
            · have hi64 : i = 64 := by omega
              subst hi64
              have hlen : Aside0 ((gs.length + 1) * 24 ≤ 140737488355328) := ⟨by rw [hgl.out]; omega⟩
              have hO1 : Aside0 (Kd.R kSl 37 wr 0 (New (fun b => (slv gv).ownBlock = some b) wr wr) (.slice gv.1 gv.2.1 gv.2.2) gs) := ⟨Kd.R_mono hBe.out.gr (fun b hb => .inl hb.symm)⟩
              have hRef := Aside0.mk (Chg.refl (fun b => (slv gv).ownBlock = some b) wr)
              go_wp2_with (at_builtin; refine app1 kSl rfl (.tmp 64) (.tmp 66) rfl Try.underlying65 infoApartRowsL rfl (by decide) (by decide) g rfl rfl (kSl_M _ _ _) hO1 hRef hlen ?_; go_must (intro v5 w5 hr5 hc5); go_must (obtain ⟨A5, n5, c5, rfl⟩ := R_sl hr5.out))
              go_roundw
              case measure => first | (simp [intOf]; done) | (simp [intOf]; omega)
              case rel =>
                have hgr := hBe.out.gr
                have hrp := hAlt.out.row hX.out hgn.out
                have hTv : ∀ b cs, (slv gv).ownBlock = some b → wr.heap[b]? ≠ some (.cells cs 5 (0, 0)) := fun b cs hb hc => by
                  obtain ⟨cs', h2⟩ := Kd.R_typed hgr b hb
                  rw [h2] at hc
                  injection hc with hc
                  injection hc with _ hc
                  exact absurd hc (by decide)
                have keep : ∀ {j m : Nat} {r : SV}, RowM kRO 59 MRow wr j m r → RowM kRO 59 MRow w5 j m r := fun h => h.chg kpRow hc5.out (fun b hb h' => rowSv_ne hgr h (by decide) b hb h') hTv
                refine ⟨k + 1, gs ++ [g], (A5, n5, c5), by go_num, rfl, by omega, ⟨by rw [List.length_append, hgl.out]; rfl⟩, ⟨Kd.R_tight rfl hr5.out⟩, ⟨fun j q hq => ?_⟩, ⟨fun j q r hq hr => ?_⟩, ⟨disj_snoc hDg.out (fun b hb => (hnot.out b (hAlt.out.own b hb)).qs)⟩, ⟨fun b hb => ?_⟩, ⟨(hCw.out.trans hC3.out (fun b _ h => ⟨k, _, hpA.out, h⟩)).trans hc5.out (fun b hlt h => ?_)⟩⟩
                · by_cases hj : j = k
                  · subst hj
                    rw [hpA.out] at hq
                    injection hq with hq
                    subst hq
                    exact keep hrp
                  · exact keep (hBe.out.ps j q hq hj)
                · rcases Nat.lt_or_ge j gs.length with hj | hj
                  · rw [List.getElem?_append_left hj] at hr
                    exact ⟨⟨keep (hBe.out.qs j q r hq hr).1, (hBe.out.qs j q r hq hr).2⟩, (hQ.out j q r hq hr).2⟩
                  · rw [List.getElem?_append_right hj] at hr
                    have hj0 : j - gs.length = 0 := by
                      have := (List.getElem?_eq_some_iff.1 hr).1
                      simp at this
                      omega
                    rw [hj0] at hr
                    simp at hr
                    subst hr
                    have hjk : j = k := by have := hgl.out; omega
                    subst hjk
                    rw [hpA.out] at hq
                    injection hq with hq
                    subst hq
                    exact ⟨⟨keep hX.out, hgn.out⟩, hAlt.out.news hCw.out.size⟩
                · rcases hr5.out.1 b hb with h | h
                  · exact hGn.out b h
                  · exact Nat.le_trans (Nat.le_trans hCw.out.size hC3.out.size) h.1
                · have := hGn.out b h; omega
        · have hkN : N = k := by omega
          subst hkN
          have hC9 := Aside0.mk (hCh.out.trans hCw.out (fun _ _ h => h))
          obtain ⟨gA, gn, gc0⟩ := gv
          have hgn : gn = N := Eq.trans (Kd.R_reads' hG.out).1 hgl.out
          subst hgn
          simp only
          go_wp2
          go_loopw [9, 10, 11] (fun i9 _ _ w4 => ∃ k : Nat, i9 = .int .i64 k ∧ k ≤ gn ∧ Aside0 (Chg (fun _ => False) wr w4)) (fun i9 _ _ _ => gn - (intOf i9).toNat)
          case atStart => exact ⟨0, rfl, by omega, ⟨Chg.refl _ _⟩⟩
          case round =>
            obtain ⟨k, rfl, hk, hwe⟩ := hrel
            have hC8 := Aside0.mk (hC9.out.trans hwe.out (fun _ _ h => h.elim))
            by_cases hlt : k < gn
            · skip
              obtain ⟨p, hp⟩ : ∃ p, vs[k]? = some p := ⟨vs[k]'(by have := hNA.out; omega), List.getElem?_eq_getElem (by have := hNA.out; omega)⟩
              obtain ⟨hpn, _⟩ := hrA.out k p hp
              obtain rfl := hAA.out (by omega)
              have x0 := Aside0.mk (cell_keep hC8.out hBA.out (hHA.out k p hp))
              have hG2 := R_chg hG.out hwe.out (fun _ _ _ h => h)
              obtain ⟨gq, gc, ge, _⟩ := Kd.R_form hG2 (by rw [hgl.out]; omega)
              have hgC := R_Cs hG2
              unfold slv at ge
              injection ge with ge1 ge2 ge3
              subst ge1
              clear ge2 ge3
              obtain ⟨ad, q, e1, hq, y0⟩ := sl_at hgC k hlt
              injection e1 with e1
              subst e1
              have y1 : Aside0 (wr.cell? ⟨gq, k, none⟩ = some (.slice q.1 q.2.1 q.2.2)) := ⟨by rw [add_plain] at y0; exact y0⟩
              obtain ⟨⟨hqr, hql⟩, _⟩ := hQ.out k p q hp hq
              replace hqr := Aside0.mk (hqr.chg kpRow hwe.out (fun _ _ h => h) (fun _ _ h => h.elim))
              have hpr := Aside0.mk ((hP.out k p hp).chg kpRow hwe.out (fun _ _ h => h) (fun _ _ h => h.elim))
              have hk0 : (0 : Int) ≤ k := by omega
              obtain ⟨Q, qn, qc⟩ := q
              obtain ⟨P, n, c⟩ := p
              simp only at hql hpn
              subst hql
              clear y0 hp hq hgC hG2
              have hk1 : (k : Int) < gn := by omega
              have hy1 : wr.cell? ⟨gq, k, none⟩ = some (.slice Q (n + 64) qc) := y1.out
              go_wp2
              clear hy1
              go_loopw [10] (fun i10  w5 => ∃ i : Nat, i10 = .int .i64 i ∧ i ≤ n + 64 ∧ Aside0 (Chg (fun _ => False) wr w5)) (fun i10  _ => n + 64 - (intOf i10).toNat)
              case atStart => exact ⟨0, rfl, by omega, ⟨Chg.refl _ _⟩⟩
              case round =>
                obtain ⟨i, rfl, hi, hwe2⟩ := hrel
                have hwe3 := Aside0.mk (hwe.out.trans hwe2.out (fun _ _ h => h))
                have y2 : wr.cell? ⟨gq, k, none⟩ = some (.slice Q (n + 64) qc) := cell_keep hwe2.out (fun h => h) y1.out
                have x2 : wr.cell? ⟨B, k, none⟩ = some (.slice P n c) := cell_keep hwe2.out (fun h => h) x0.out
                by_cases hil : i < n + 64
                · have hi0 : (0 : Int) ≤ i := by omega
                  have hi1 : (i : Int) < (n : Int) + 64 := by omega
                  have hr6 := hqr.out.chg kpRow hwe2.out (fun _ _ h => h) (fun _ _ h => h.elim)
                  obtain ⟨gg, e3, _⟩ := hr6.head (by simp only; omega)
                  simp only at e3
                  subst e3
                  obtain ⟨z0, z3⟩ := cell_Row hr6 hil hil
                  have hwk : IntKind.i64.wrap (100 + (k : Int)) = 100 + (k : Int) := by simp [IntKind.wrap, IntKind.bits, IntKind.signed]; omega
                  clear hr6
                  go_wp2
                  go_roundw
                  case measure => first | (simp [intOf]; done) | (simp [intOf]; omega)
                  case rel => exact ⟨i + 1, by go_num, by omega, hwe2⟩
                · have hi64 : i = n + 64 := by omega
                  subst hi64
                  replace y1 := Aside0.mk (cell_keep hwe2.out (fun h => h) y1.out)
                  replace x0 := Aside0.mk (cell_keep hwe2.out (fun h => h) x0.out)
                  replace hqr := Aside0.mk (hqr.out.chg kpRow hwe2.out (fun _ _ h => h) (fun _ _ h => h.elim))
                  replace hpr := Aside0.mk (hpr.out.chg kpRow hwe2.out (fun _ _ h => h) (fun _ _ h => h.elim))
                  replace hwe := hwe3
                  clear hwe2 hwe3
                  go_wp2
                  clear y2 x2
                  go_loopw [11] (fun i10  w5 => ∃ i : Nat, i10 = .int .i64 i ∧ i ≤ n ∧ Aside0 (Chg (fun _ => False) wr w5)) (fun i10  _ => n - (intOf i10).toNat)
                  case atStart => exact ⟨0, rfl, by omega, ⟨Chg.refl _ _⟩⟩
                  case round =>
                    obtain ⟨i, rfl, hi, hwe2⟩ := hrel
                    have hwe3 := Aside0.mk (hwe.out.trans hwe2.out (fun _ _ h => h))
                    have y2 : wr.cell? ⟨gq, k, none⟩ = some (.slice Q (n + 64) qc) := cell_keep hwe2.out (fun h => h) y1.out
                    have x2 : wr.cell? ⟨B, k, none⟩ = some (.slice P n c) := cell_keep hwe2.out (fun h => h) x0.out
                    by_cases hil : i < n
                    · have hi0 : (0 : Int) ≤ i := by omega
                      have hi1 : (i : Int) < (n : Int) := by omega
                      have hr6 := hpr.out.chg kpRow hwe2.out (fun _ _ h => h) (fun _ _ h => h.elim)
                      obtain ⟨gg, e3, _⟩ := hr6.head (by simp only; omega)
                      simp only at e3
                      subst e3
                      obtain ⟨z0, z3⟩ := cell_Row hr6 hil hil
                      have hwk : IntKind.i64.wrap (100 + (k : Int)) = 100 + (k : Int) := by simp [IntKind.wrap, IntKind.bits, IntKind.signed]; omega
                      clear hr6
                      go_wp2
                      go_roundw
                      case measure => first | (simp [intOf]; done) | (simp [intOf]; omega)
                      case rel => exact ⟨i + 1, by go_num, by omega, hwe2⟩
                    · have hi64 : i = n := by omega
                      subst hi64
                      go_wp2
                      go_roundw
                      case measure => first | (simp [intOf]; done) | (simp [intOf]; omega)
                      case rel => exact ⟨k + 1, by go_num, by omega, hwe3⟩
            · have hkN : k = gn := by omega
              subst hkN
              go_wp2
              go_ret
              exact ⟨rfl, hC8.out⟩
end Go.Proofs.Ytdoghjmanogelaa.K
