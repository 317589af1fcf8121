import Derived.Test.YtdoghjmanogelaaNa
import Derived.Test.YtdoghjmanogelaaQx
import Derived.Test.YtdoghjmanogelaaWApart
import Derived.IntWalk
namespace Go.Proofs.Ytdoghjmanogelaa.K
open Go.RowKit Go.Proofs.YtdoghjmanogelaaW.PrintWords Go.Proofs.YtdoghjmanogelaaW.PrintLast Go.Proofs.YtdoghjmanogelaaW.PrintMore
set_option linter.unusedVariables false
set_option linter.unusedSimpArgs false
set_option maxRecDepth 100000
def slv (p : Option Addr × Nat × Nat) : Value := .slice p.1 p.2.1 p.2.2
def kSl : Kd (Option Addr × Nat × Nat) := Kd.scalar slv (fun _ => rfl)
theorem kSl_M (w : World) (ok : Nat → Prop) (p : Option Addr × Nat × Nat) : kSl.M w 0 ok p [.slice p.1 p.2.1 p.2.2] := rfl
theorem sl_at {w : World} {A : Option Addr} {n : Nat} {l : List (Option Addr × Nat × Nat)} (h : Kd.C kSl w A n l) (i : Nat) (h1 : i < n) : ∃ ad p, A = some ad ∧ l[i]? = some p ∧ w.cell? (ad.add i) = some (.slice p.1 p.2.1 p.2.2) := by
  have hl : i < l.length := by have := h.1; omega
  obtain ⟨ad, c, e, _, hK, hc0⟩ := Kd.C_get h (none, 0, 0) (i : Int) (by omega) (by omega)
  have e1 : l.getD (i : Int).toNat (none, 0, 0) = l[i] := by rw [Int.toNat_natCast, List.getD_eq_getElem?_getD, List.getElem?_eq_getElem hl]; rfl
  rw [e1] at hK
  refine ⟨ad, l[i], e, List.getElem?_eq_getElem hl, ?_⟩
  have hk : c = [slv l[i]] := hK
  have := hc0 0 _ (by rw [hk]; rfl)
  have e2 : kSl.sz = 1 := rfl
  simpa [e2, slv] using this
def mkB (k n : Nat) : List Int := (List.range n).map (fun i : Nat => (37 * ((k : Int) + 1) + (i : Int)) % 256)
theorem R_Cs {e : Nat} {w : World} {ok : Nat → Prop} {gv : Option Addr × Nat × Nat} {gs : List (Option Addr × Nat × Nat)} (h : Kd.R kSl e w 0 ok (slv gv) gs) : Kd.C kSl w gv.1 gv.2.1 gs := by
  obtain ⟨h1, _, h3⟩ := Kd.R_reads' h
  rw [← h1] at h3
  exact h3
abbrev RowB (W : World) (p : Option Addr × Nat × Nat) (xs : List Int) : Prop := Kd.R (Kd.int .u8) 5 W 0 (fun b => some b = (slv p).ownBlock) (slv p) xs
def OwnS (vs : List (Option Addr × Nat × Nat)) (b : Nat) : Prop := ∃ (k : Nat) (p : Option Addr × Nat × Nat), vs[k]? = some p ∧ (slv p).ownBlock = some b
def Disj (vs : List (Option Addr × Nat × Nat)) : Prop := ∀ (j k : Nat) (p q : Option Addr × Nat × Nat) (b : Nat), vs[j]? = some p → vs[k]? = some q → j ≠ k → (slv p).ownBlock = some b → (slv q).ownBlock ≠ some b
theorem RowB.len {W : World} {p : Option Addr × Nat × Nat} {xs : List Int} (h : RowB W p xs) : p.2.1 = xs.length := by
  obtain ⟨h1, _, _⟩ := Kd.R_reads' h
  exact h1
theorem RowB.head {W : World} {p : Option Addr × Nat × Nat} {xs : List Int} (h : RowB W p xs) (h0 : 0 < xs.length) : ∃ g, p.1 = some ⟨g, 0, none⟩ ∧ (slv p).ownBlock = some g := by
  obtain ⟨g, cap, e, _⟩ := Kd.R_form h h0
  unfold slv at e
  injection e with e1 e2 e3
  exact ⟨g, e1, by unfold slv; rw [e1]; rfl⟩
theorem cell_keep {S : Nat → Prop} {w w' : World} {p : Addr} {v : Value} (hc : Chg S w w') (hS : ¬ S p.block) (h : w.cell? p = some v) : w'.cell? p = some v := by
  have hb := World.block_lt_of_cell? w p h
  have hk := hc.block p.block hb hS
  simpa [World.cell?, hk] using h
theorem take_set {xs : List Int} {i : Nat} {x : Int} (h : i < xs.length) : (xs.set i x).take (i + 1) = xs.take i ++ [x] := by
  have e1 : (xs.set i x).take i = xs.take i := by rw [List.take_set, List.set_eq_of_length_le (by rw [List.length_take]; omega)]
  rw [List.take_succ_eq_append_getElem (by simpa using h), e1]
  simp
theorem RowB.cell {W : World} {p : Option Addr × Nat × Nat} {xs : List Int} {g i : Nat} (h : RowB W p xs) (hg : p.1 = some ⟨g, 0, none⟩) (hi : i < p.2.1) : W.cell? ⟨g, i, none⟩ = some (.int .u8 (xs.getD i 0)) := by
  obtain ⟨P, n, c⟩ := p
  subst hg
  obtain ⟨h1, _⟩ := Kd.R_celln 0 h (i : Int) (by omega) (by simpa using hi)
  simpa [rdOf] using h1
theorem row_chg {S : Nat → Prop} {W W' : World} {r : Option Addr × Nat × Nat} {xs : List Int} (h : RowB W r xs) (hc : Chg S W W') (hS : ∀ b, (slv r).ownBlock = some b → ¬ S b) : RowB W' r xs := R_chg h hc (fun b _ hb hs => hS b hb.symm hs)
abbrev RowS (W : World) (gv : Option Addr × Nat × Nat) (gs : List (Option Addr × Nat × Nat)) : Prop := Kd.R kSl 73 W 0 (fun b => some b = (slv gv).ownBlock) (slv gv) gs
structure Beside (W : World) (vs gs : List (Option Addr × Nat × Nat)) (gv : Option Addr × Nat × Nat) (k : Nat) : Prop where
  gr : RowS W gv gs
  ps : ∀ (j : Nat) (p : Option Addr × Nat × Nat), vs[j]? = some p → j ≠ k → RowB W p (mkB j p.2.1)
  qs : ∀ (j : Nat) (p q : Option Addr × Nat × Nat), vs[j]? = some p → gs[j]? = some q → RowB W q (mkB j (p.2.1 + 64))
structure NotOf (vs gs : List (Option Addr × Nat × Nat)) (gv : Option Addr × Nat × Nat) (k b : Nat) : Prop where
  gr : (slv gv).ownBlock ≠ some b
  ps : ∀ (j : Nat) (p : Option Addr × Nat × Nat), vs[j]? = some p → j ≠ k → (slv p).ownBlock ≠ some b
  qs : ∀ (j : Nat) (q : Option Addr × Nat × Nat), gs[j]? = some q → (slv q).ownBlock ≠ some b
theorem Beside.chg {S : Nat → Prop} {W W' : World} {vs gs : List (Option Addr × Nat × Nat)} {gv : Option Addr × Nat × Nat} {k : Nat} (h : Beside W vs gs gv k) (hc : Chg S W W') (hS : ∀ b, S b → NotOf vs gs gv k b) : Beside W' vs gs gv k :=
  ⟨R_chg h.gr hc (fun b _ hb hs => (hS b hs).gr hb.symm), fun j p hp hj => row_chg (h.ps j p hp hj) hc (fun b hb hs => (hS b hs).ps j p hp hj hb), fun j p q hp hq => row_chg (h.qs j p q hp hq) hc (fun b hb hs => (hS b hs).qs j q hq hb)⟩
theorem disj_snoc {gs : List (Option Addr × Nat × Nat)} {g : Option Addr × Nat × Nat} (hD : Disj gs) (hg : ∀ b, (slv g).ownBlock = some b → ∀ (j : Nat) (q : Option Addr × Nat × Nat), gs[j]? = some q → (slv q).ownBlock ≠ some b) : Disj (gs ++ [g]) := by
  intro j k p q b hp hq hjk hb hb2
  rcases Nat.lt_or_ge j gs.length with hj | hj
  · rw [List.getElem?_append_left hj] at hp
    rcases Nat.lt_or_ge k gs.length with hk | hk
    · rw [List.getElem?_append_left hk] at hq
      exact hD j k p q b hp hq hjk hb hb2
    · rw [List.getElem?_append_right hk] at hq
      have h0 : k - gs.length = 0 := by
        have := (List.getElem?_eq_some_iff.1 hq).1
        simp at this
        omega
      rw [h0] at hq
      simp at hq
      subst hq
      exact hg b hb2 j p hp hb
  · rw [List.getElem?_append_right hj] at hp
    have h0 : j - gs.length = 0 := by
      have := (List.getElem?_eq_some_iff.1 hp).1
      simp at this
      omega
    rw [h0] at hp
    simp at hp
    subst hp
    rcases Nat.lt_or_ge k gs.length with hk | hk
    · rw [List.getElem?_append_left hk] at hq
      exact hg b hb k q hq hb2
    · have := (List.getElem?_eq_some_iff.1 hq).1
      simp at this
      omega
theorem own_alt {g : Option Addr × Nat × Nat} {P : Option Addr} {n m c N : Nat} {X : Prop} (h : g = (P, m, c) ∨ ((∃ b, (slv g).ownBlock = some b ∧ N ≤ b) ∧ X)) : ∀ b, (slv g).ownBlock = some b → (slv (P, n, c)).ownBlock = some b ∨ N ≤ b := by
  intro b hb
  rcases h with h | ⟨⟨b', h1, h2⟩, _⟩
  · subst h
    left
    cases P with
    | none => exact hb
    | some a => exact hb
  · rw [hb] at h1; injection h1 with h1; exact .inr (h1 ▸ h2)
theorem alt_own {g : Option Addr × Nat × Nat} {P : Option Addr} {n m c N M : Nat} {X : Prop} (hM : M ≤ N) (h : g = (P, m, c) ∨ ((∃ b, (slv g).ownBlock = some b ∧ N ≤ b) ∧ X)) : (slv g).ownBlock = (slv (P, n, c)).ownBlock ∨ ∃ b, (slv g).ownBlock = some b ∧ M ≤ b := by
  rcases h with h | ⟨⟨b, h1, h2⟩, _⟩
  · subst h
    left
    cases P <;> rfl
  · exact .inr ⟨b, h1, by omega⟩
theorem RowB.put {W : World} {p : Option Addr × Nat × Nat} {xs : List Int} {g i : Nat} {x : Int} (h : RowB W p xs) (hg : p.1 = some ⟨g, 0, none⟩) : RowB (W.setCell ⟨g, i, none⟩ (.int .u8 x)) p (xs.set i x) := by
  obtain ⟨P, n, c⟩ := p
  subst hg
  exact Kd.R_putn h (i : Int) x
theorem RowB.cells {W : World} {p : Option Addr × Nat × Nat} {xs : List Int} {g i : Nat} (h : RowB W p xs) (hg : p.1 = some ⟨g, 0, none⟩) (hi : i < p.2.1) : ∃ u, W.cell? ⟨g, i, none⟩ = some u ∧ W.frozen? ⟨g, i, none⟩ = false := by
  obtain ⟨P, n, c⟩ := p
  subst hg
  obtain ⟨h1, h2⟩ := Kd.R_celln 0 h (i : Int) (by omega) (by simpa using hi)
  exact ⟨_, h1, h2⟩
end Go.Proofs.Ytdoghjmanogelaa.K
