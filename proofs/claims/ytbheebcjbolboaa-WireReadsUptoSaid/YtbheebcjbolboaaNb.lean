import Derived.Test.YtbheebcjbolboaaRa
import Derived.Test.YtbheebcjbolboaaNa
import Derived.Test.YtbheebcjbolboaaWApart
import Derived.IntWalk
namespace Go.Proofs.Ytbheebcjbolboaa.K
open Go.RowKit Go.Proofs.YtbheebcjbolboaaW.PrintWords Go.Proofs.YtbheebcjbolboaaW.PrintLast Go.Proofs.YtbheebcjbolboaaW.PrintMore
set_option linter.unusedVariables false
set_option linter.unusedSimpArgs false
set_option maxRecDepth 100000

/-- A slice as a value: where it begins, how long it is, its room. -/
def slv (p : Option Addr × Nat × Nat) : Value := .slice p.1 p.2.1 p.2.2
def kSl : Kd (Option Addr × Nat × Nat) := Kd.scalar slv (fun _ => rfl)
theorem kSl_M (w : World) (ok : Nat → Prop) (p : Option Addr × Nat × Nat) : kSl.M w 0 ok p [.slice p.1 p.2.1 p.2.2] := rfl
theorem infoSl : (Try.prog.info? 25).map (fun i => (i.zero, i.size, i.bytes)) = some (some (.slice none 0 0), 1, 24) := by kernel_rfl
theorem sl_at {w : World} {A : Option Addr} {n : Nat} {l : List (Option Addr × Nat × Nat)} (h : Kd.C kSl w A n l) (i : Nat) (h1 : i < n) : ∃ ad p, A = some ad ∧ l[i]? = some p ∧ w.cell? (ad.add i) = some (.slice p.1 p.2.1 p.2.2) := by
  have hl : i < l.length := by have := h.1; omega
  obtain ⟨ad, c, e, _, hK, hc0⟩ := Kd.C_get h (none, 0, 0) (i : Int) (by omega) (by omega)
  have e1 : l.getD (i : Int).toNat (none, 0, 0) = l[i] := by rw [Int.toNat_natCast, List.getD_eq_getElem?_getD, List.getElem?_eq_getElem hl]; rfl
  rw [e1] at hK
  refine ⟨ad, l[i], e, List.getElem?_eq_getElem hl, ?_⟩
  have hk : c = [slv l[i]] := hK
  have := hc0 0 _ (by rw [hk]; rfl)
  have e2 : kSl.sz = 1 := rfl
  simpa [e2, slv] using this
/-- The marks of the k-th row. -/
def mkB (k n : Nat) : List Int := (List.range n).map (fun i : Nat => (37 * ((k : Int) + 1) + (i : Int)) % 256)
theorem mkB_length (k n : Nat) : (mkB k n).length = n := by simp [mkB]
theorem mkB_succ (k n : Nat) : mkB k (n + 1) = mkB k n ++ [(37 * ((k : Int) + 1) + (n : Int)) % 256] := by simp [mkB, List.range_succ]
theorem mkB_get {k n i : Nat} (h : i < n) : (mkB k n).getD i 0 = (37 * ((k : Int) + 1) + (i : Int)) % 256 := by
  rw [List.getD_eq_getElem?_getD, mkB, List.getElem?_map, List.getElem?_range h]; rfl
theorem mkB_take {k n m : Nat} (h : m ≤ n) : (mkB k n).take m = mkB k m := by
  simp [mkB, ← List.map_take, List.take_range, Nat.min_eq_left h]
theorem R_Cs {e : Nat} {w : World} {ok : Nat → Prop} {gv : Option Addr × Nat × Nat} {gs : List (Option Addr × Nat × Nat)} (h : Kd.R kSl e w 0 ok (slv gv) gs) : Kd.C kSl w gv.1 gv.2.1 gs := by
  obtain ⟨h1, _, h3⟩ := Kd.R_reads' h
  rw [← h1] at h3
  exact h3
/-- Each row stands for itself in its own block. -/
abbrev RowB (W : World) (p : Option Addr × Nat × Nat) (xs : List Int) : Prop := Kd.R (Kd.int .u8) 5 W 0 (fun b => some b = (slv p).ownBlock) (slv p) xs
def OwnS (vs : List (Option Addr × Nat × Nat)) (b : Nat) : Prop := ∃ (k : Nat) (p : Option Addr × Nat × Nat), vs[k]? = some p ∧ (slv p).ownBlock = some b
def Disj (vs : List (Option Addr × Nat × Nat)) : Prop := ∀ (j k : Nat) (p q : Option Addr × Nat × Nat) (b : Nat), vs[j]? = some p → vs[k]? = some q → j ≠ k → (slv p).ownBlock = some b → (slv q).ownBlock ≠ some b
theorem RowB.len {W : World} {p : Option Addr × Nat × Nat} {xs : List Int} (h : RowB W p xs) : p.2.1 = xs.length := by
  obtain ⟨h1, _, _⟩ := Kd.R_reads' h
  exact h1
theorem RowB.head {W : World} {p : Option Addr × Nat × Nat} {xs : List Int} (h : RowB W p xs) (h0 : 0 < xs.length) : ∃ g, p.1 = some ⟨g, 0, none⟩ ∧ (slv p).ownBlock = some g := by
  obtain ⟨g, cap, e, _⟩ := Kd.R_form h h0
  unfold slv at e
  injection e with e1 e2 e3
  exact ⟨g, e1, by unfold slv; rw [e1]; rfl⟩
theorem cell_keep {S : Nat → Prop} {w w' : World} {p : Addr} {v : Value} (hc : Chg S w w') (hS : ¬ S p.block) (h : w.cell? p = some v) : w'.cell? p = some v := by
  have hb := World.block_lt_of_cell? w p h
  have hk := hc.block p.block hb hS
  simpa [World.cell?, hk] using h
theorem take_set {xs : List Int} {i : Nat} {x : Int} (h : i < xs.length) : (xs.set i x).take (i + 1) = xs.take i ++ [x] := by
  have e1 : (xs.set i x).take i = xs.take i := by rw [List.take_set, List.set_eq_of_length_le (by rw [List.length_take]; omega)]
  rw [List.take_succ_eq_append_getElem (by simpa using h), e1]
  simp
theorem RowB.cell {W : World} {p : Option Addr × Nat × Nat} {xs : List Int} {g i : Nat} (h : RowB W p xs) (hg : p.1 = some ⟨g, 0, none⟩) (hi : i < p.2.1) : W.cell? ⟨g, i, none⟩ = some (.int .u8 (xs.getD i 0)) := by
  obtain ⟨P, n, c⟩ := p
  subst hg
  obtain ⟨h1, _⟩ := Kd.R_celln 0 h (i : Int) (by omega) (by simpa using hi)
  simpa [rdOf] using h1
theorem row_take {W : World} {P : Option Addr} {m n c : Nat} {xs : List Int} (h : RowB W (P, m, c) xs) (hn : n ≤ xs.length) : RowB W (P, n, c) (xs.take n) := by
  cases P with
  | none => exact Kd.R_take (A := none) h hn
  | some a => exact Kd.R_take (A := some a) h hn
theorem row_chg {S : Nat → Prop} {W W' : World} {r : Option Addr × Nat × Nat} {xs : List Int} (h : RowB W r xs) (hc : Chg S W W') (hS : ∀ b, (slv r).ownBlock = some b → ¬ S b) : RowB W' r xs := R_chg h hc (fun b _ hb hs => hS b hb.symm hs)
theorem row_lt {W : World} {r : Option Addr × Nat × Nat} {xs : List Int} (h : RowB W r xs) : ∀ b, (slv r).ownBlock = some b → b < W.heap.size := Kd.R_lt h
abbrev RowS (W : World) (gv : Option Addr × Nat × Nat) (gs : List (Option Addr × Nat × Nat)) : Prop := Kd.R kSl 25 W 0 (fun b => some b = (slv gv).ownBlock) (slv gv) gs
theorem rowS_ne {W : World} {gv r : Option Addr × Nat × Nat} {gs : List (Option Addr × Nat × Nat)} {xs : List Int} (h : RowS W gv gs) (hr : RowB W r xs) : ∀ b, (slv r).ownBlock = some b → (slv gv).ownBlock ≠ some b := by
  intro b hb hg
  obtain ⟨c1, e1⟩ := Kd.R_typed h b hg
  obtain ⟨c2, e2⟩ := Kd.R_typed hr b hb
  rw [e1] at e2
  injection e2 with e2
  injection e2 with _ e2
  exact absurd e2 (by decide)
/-- What lies beside the row that grows. -/
structure Beside (W : World) (vs gs : List (Option Addr × Nat × Nat)) (gv : Option Addr × Nat × Nat) (k : Nat) : Prop where
  gr : RowS W gv gs
  ps : ∀ (j : Nat) (p : Option Addr × Nat × Nat), vs[j]? = some p → j ≠ k → RowB W p (mkB j p.2.1)
  qs : ∀ (j : Nat) (p q : Option Addr × Nat × Nat), vs[j]? = some p → gs[j]? = some q → RowB W q (mkB j (p.2.1 + 64))
/-- This block is none of theirs. -/
structure NotOf (vs gs : List (Option Addr × Nat × Nat)) (gv : Option Addr × Nat × Nat) (k b : Nat) : Prop where
  gr : (slv gv).ownBlock ≠ some b
  ps : ∀ (j : Nat) (p : Option Addr × Nat × Nat), vs[j]? = some p → j ≠ k → (slv p).ownBlock ≠ some b
  qs : ∀ (j : Nat) (q : Option Addr × Nat × Nat), gs[j]? = some q → (slv q).ownBlock ≠ some b
theorem Beside.chg {S : Nat → Prop} {W W' : World} {vs gs : List (Option Addr × Nat × Nat)} {gv : Option Addr × Nat × Nat} {k : Nat} (h : Beside W vs gs gv k) (hc : Chg S W W') (hS : ∀ b, S b → NotOf vs gs gv k b) : Beside W' vs gs gv k :=
  ⟨R_chg h.gr hc (fun b _ hb hs => (hS b hs).gr hb.symm), fun j p hp hj => row_chg (h.ps j p hp hj) hc (fun b hb hs => (hS b hs).ps j p hp hj hb), fun j p q hp hq => row_chg (h.qs j p q hp hq) hc (fun b hb hs => (hS b hs).qs j q hq hb)⟩
theorem disj_snoc {gs : List (Option Addr × Nat × Nat)} {g : Option Addr × Nat × Nat} (hD : Disj gs) (hg : ∀ b, (slv g).ownBlock = some b → ∀ (j : Nat) (q : Option Addr × Nat × Nat), gs[j]? = some q → (slv q).ownBlock ≠ some b) : Disj (gs ++ [g]) := by
  intro j k p q b hp hq hjk hb hb2
  rcases Nat.lt_or_ge j gs.length with hj | hj
  · rw [List.getElem?_append_left hj] at hp
    rcases Nat.lt_or_ge k gs.length with hk | hk
    · rw [List.getElem?_append_left hk] at hq
      exact hD j k p q b hp hq hjk hb hb2
    · rw [List.getElem?_append_right hk] at hq
      have h0 : k - gs.length = 0 := by
        have := (List.getElem?_eq_some_iff.1 hq).1
        simp at this
        omega
      rw [h0] at hq
      simp at hq
      subst hq
      exact hg b hb2 j p hp hb
  · rw [List.getElem?_append_right hj] at hp
    have h0 : j - gs.length = 0 := by
      have := (List.getElem?_eq_some_iff.1 hp).1
      simp at this
      omega
    rw [h0] at hp
    simp at hp
    subst hp
    rcases Nat.lt_or_ge k gs.length with hk | hk
    · rw [List.getElem?_append_left hk] at hq
      exact hg b hb k q hq hb2
    · have := (List.getElem?_eq_some_iff.1 hq).1
      simp at this
      omega
theorem own_alt {g : Option Addr × Nat × Nat} {P : Option Addr} {n m c N : Nat} {X : Prop} (h : g = (P, m, c) ∨ ((∃ b, (slv g).ownBlock = some b ∧ N ≤ b) ∧ X)) : ∀ b, (slv g).ownBlock = some b → (slv (P, n, c)).ownBlock = some b ∨ N ≤ b := by
  intro b hb
  rcases h with h | ⟨⟨b', h1, h2⟩, _⟩
  · subst h
    left
    cases P with
    | none => exact hb
    | some a => exact hb
  · rw [hb] at h1; injection h1 with h1; exact .inr (h1 ▸ h2)
theorem alt_step {W w1 : World} {g : Option Addr × Nat × Nat} {P A1 : Option Addr} {n c i N k n1 c1 : Nat} (hX : RowB W g (mkB k (n + i))) (hAlt : g = (P, n + i, c) ∨ ((∃ b, (slv g).ownBlock = some b ∧ N ≤ b) ∧ RowB W (P, n, c) (mkB k n))) (hNW : N ≤ W.heap.size) (hpl : ∀ b, (slv (P, n, c)).ownBlock = some b → b < N)
    (hc1 : Chg (fun b => (slv g).ownBlock = some b) W w1)
    (halt : (∃ gb cc, slv g = .slice (some ⟨gb, 0, none⟩) (mkB k (n + i)).length cc ∧ Value.slice A1 n1 c1 = .slice (some ⟨gb, 0, none⟩) ((mkB k (n + i)).length + 1) cc) ∨ (Chg (fun _ => False) W w1 ∧ ∃ b, (Value.slice A1 n1 c1).ownBlock = some b ∧ W.heap.size ≤ b)) :
    (A1, n1, c1) = (P, n + (i + 1), c) ∨ ((∃ b, (slv (A1, n1, c1)).ownBlock = some b ∧ N ≤ b) ∧ RowB w1 (P, n, c) (mkB k n)) := by
  rcases halt with ⟨gb, cc, e1, e2⟩ | ⟨hq, b, hb, hW⟩
  · rw [mkB_length] at e1 e2
    injection e2 with f1 f2 f3
    have hog : (slv g).ownBlock = some gb := by rw [e1]; rfl
    rcases hAlt with h | ⟨⟨b, h1, h2⟩, h3⟩
    · subst h
      unfold slv at e1
      injection e1 with g1 g2 g3
      left
      simp only at g1 g3
      rw [f1, f2, f3, g1, g3]
      rfl
    · right
      refine ⟨⟨gb, by unfold slv; simp only; rw [f1]; rfl, ?_⟩, row_chg h3 hc1 (fun b' hb' h' => ?_)⟩
      · rw [hog] at h1; injection h1 with h1; omega
      · have := hpl b' hb'
        rw [h'] at h1; injection h1 with h1; omega
  · right
    refine ⟨⟨b, hb, by omega⟩, ?_⟩
    rcases hAlt with h | ⟨_, h3⟩
    · subst h
      have := row_take (n := n) hX (by rw [mkB_length]; omega)
      rw [mkB_take (by omega)] at this
      exact row_chg this hq (fun _ _ h => h)
    · exact row_chg h3 hq (fun _ _ h => h)
theorem alt_row {W : World} {g : Option Addr × Nat × Nat} {P : Option Addr} {n c i N k : Nat} (hX : RowB W g (mkB k (n + i))) (hAlt : g = (P, n + i, c) ∨ ((∃ b, (slv g).ownBlock = some b ∧ N ≤ b) ∧ RowB W (P, n, c) (mkB k n))) : RowB W (P, n, c) (mkB k n) := by
  rcases hAlt with h | ⟨_, h⟩
  · subst h
    have := row_take (n := n) hX (by rw [mkB_length]; omega)
    rwa [mkB_take (by omega)] at this
  · exact h
theorem alt_own {g : Option Addr × Nat × Nat} {P : Option Addr} {n m c N M : Nat} {X : Prop} (hM : M ≤ N) (h : g = (P, m, c) ∨ ((∃ b, (slv g).ownBlock = some b ∧ N ≤ b) ∧ X)) : (slv g).ownBlock = (slv (P, n, c)).ownBlock ∨ ∃ b, (slv g).ownBlock = some b ∧ M ≤ b := by
  rcases h with h | ⟨⟨b, h1, h2⟩, _⟩
  · subst h
    left
    cases P <;> rfl
  · exact .inr ⟨b, h1, by omega⟩
/-- A mark is written. -/
theorem RowB.put {W : World} {p : Option Addr × Nat × Nat} {xs : List Int} {g i : Nat} {x : Int} (h : RowB W p xs) (hg : p.1 = some ⟨g, 0, none⟩) : RowB (W.setCell ⟨g, i, none⟩ (.int .u8 x)) p (xs.set i x) := by
  obtain ⟨P, n, c⟩ := p
  subst hg
  exact Kd.R_putn h (i : Int) x
theorem RowB.cells {W : World} {p : Option Addr × Nat × Nat} {xs : List Int} {g i : Nat} (h : RowB W p xs) (hg : p.1 = some ⟨g, 0, none⟩) (hi : i < p.2.1) : ∃ u, W.cell? ⟨g, i, none⟩ = some u ∧ W.frozen? ⟨g, i, none⟩ = false := by
  obtain ⟨P, n, c⟩ := p
  subst hg
  obtain ⟨h1, h2⟩ := Kd.R_celln 0 h (i : Int) (by omega) (by simpa using hi)
  exact ⟨_, h1, h2⟩

set_option maxHeartbeats 4000000
theorem kit_Apart (w : World) (A : Option Addr) (N cap B : Nat) (vs : List (Option Addr × Nat × Nat)) (hN : vs.length = N) (hNb : N ≤ 1099511627776) (hA : 0 < N → A = some ⟨B, 0, none⟩) (hH : ∀ (k : Nat) (p : Option Addr × Nat × Nat), vs[k]? = some p → w.cell? ⟨B, k, none⟩ = some (slv p)) (hB : ¬ OwnS vs B)
    (hrow : ∀ (k : Nat) (p : Option Addr × Nat × Nat), vs[k]? = some p → p.2.1 ≤ 35184372088832 ∧ ∃ xs, RowB w p xs) (hD : Disj vs) :
    Calls Try.prog 20 #[.slice A N cap] w fun e w' => e = .returned (.bool true) ∧ Chg (OwnS vs) w w' := by
  have hHA := Aside0.mk hH
  have hrA := Aside0.mk hrow
  have hDA := Aside0.mk hD
  have hBA := Aside0.mk hB
  have hAA := Aside0.mk hA
  have hNA := Aside0.mk hN
  clear hH hrow hD hB hA hN
  go_enter Try.func20, Try.ntmps20
  go_wp2
  go_loopw [3, 4] (fun ik _ wr => ∃ k : Nat, ik = .int .i64 k ∧ k ≤ N ∧ Aside0 (∀ (j : Nat) (p : Option Addr × Nat × Nat), vs[j]? = some p → ∃ xs, RowB wr p xs ∧ (j < k → xs = mkB j p.2.1)) ∧ Aside0 (Chg (OwnS vs) w wr)) (fun ik _ _ => N - (intOf ik).toNat)
  case atStart => exact ⟨0, rfl, by omega, ⟨fun j p hp => by obtain ⟨_, xs, h⟩ := hrA.out j p hp; exact ⟨xs, h, fun h => by omega⟩⟩, ⟨Chg.refl _ _⟩⟩
  case round =>
    obtain ⟨k, rfl, hk, hR, hCh⟩ := hrel
    by_cases hlt : k < N
    · obtain ⟨p, hp⟩ : ∃ p, vs[k]? = some p := ⟨vs[k]'(by have := hNA.out; omega), List.getElem?_eq_getElem (by have := hNA.out; omega)⟩
      obtain ⟨hpn, _⟩ := hrA.out k p hp
      obtain rfl := hAA.out (by omega)
      have x0 : wr.cell? ⟨B, k, none⟩ = some (.slice p.1 p.2.1 p.2.2) := cell_keep hCh.out hBA.out (hHA.out k p hp)
      have hk0 : (0 : Int) ≤ k := by omega
      have hk1 : (k : Int) < N := by omega
      have hpA := Aside0.mk hp
      obtain ⟨P, n, c⟩ := p
      simp only at hpn x0
      clear hp
      go_wp2
      go_loopw [4] (fun ii w2 => ∃ (i : Nat) (xs : List Int), ii = .int .i64 i ∧ i ≤ n ∧ Aside0 (RowB w2 (P, n, c) xs ∧ xs.take i = mkB k i) ∧ Aside0 (∀ (j : Nat) (p : Option Addr × Nat × Nat), vs[j]? = some p → j ≠ k → ∃ xs, RowB w2 p xs ∧ (j < k → xs = mkB j p.2.1)) ∧ Aside0 (Chg (OwnS vs) w w2)) (fun ii _ => n - (intOf ii).toNat)
      case atStart =>
        obtain ⟨xs, h1, _⟩ := hR.out k _ hpA.out
        exact ⟨0, xs, rfl, by omega, ⟨h1, by simp [mkB]⟩, ⟨fun j p hp _ => hR.out j p hp⟩, hCh⟩
      case round =>
        obtain ⟨i, xs, rfl, hi, hX, hO, hC2⟩ := hrel
        have x1 : wr.cell? ⟨B, k, none⟩ = some (.slice P n c) := cell_keep hC2.out hBA.out (hHA.out k _ hpA.out)
        by_cases hil : i < n
        · have hlen := hX.out.1.len
          simp only at hlen
          obtain ⟨g, e1, e2⟩ := hX.out.1.head (by omega)
          simp only at e1
          subst e1
          obtain ⟨u, c1, c2⟩ := hX.out.1.cells (i := i) rfl hil
          have hi0 : (0 : Int) ≤ i := by omega
          have hi1 : (i : Int) < n := by omega
          have hw8 : IntKind.u8.wrap (37 * ((k : Int) + 1) + (i : Int)) = (37 * ((k : Int) + 1) + (i : Int)) % 256 := by simp [IntKind.wrap, IntKind.bits, IntKind.signed]
          have hX2 : Aside0 (RowB (wr.setCell ⟨g, i, none⟩ (.int .u8 ((37 * ((k : Int) + 1) + (i : Int)) % 256))) (some ⟨g, 0, none⟩, n, c) (xs.set i ((37 * ((k : Int) + 1) + (i : Int)) % 256)) ∧ (xs.set i ((37 * ((k : Int) + 1) + (i : Int)) % 256)).take (i + 1) = mkB k (i + 1)) := ⟨hX.out.1.put rfl, by rw [take_set (by omega), hX.out.2, mkB_succ]⟩
          have hcs : Aside0 (Chg (fun b => b = g) wr (wr.setCell ⟨g, i, none⟩ (.int .u8 ((37 * ((k : Int) + 1) + (i : Int)) % 256)))) := ⟨(Chg.refl (fun b => b = g) wr).setCell (p := ⟨g, i, none⟩) (fun _ => rfl) _⟩
          have e2A := Aside0.mk e2
          clear e2 hlen
          go_wp2
          go_roundw
          case measure => first | (simp [intOf]; done) | (simp [intOf]; omega)
          case rel =>
            refine ⟨i + 1, _, by go_num, by omega, hX2, ⟨fun j p hp hj => ?_⟩, ⟨hC2.out.trans hcs.out (fun b _ h => ⟨k, _, hpA.out, h ▸ e2A.out⟩)⟩⟩
            obtain ⟨ys, h1, h2⟩ := hO.out j p hp hj
            exact ⟨ys, R_chg h1 hcs.out (fun b _ hb h => by subst h; exact hDA.out k j _ p _ hpA.out hp (Ne.symm hj) e2A.out hb.symm), h2⟩
        · obtain rfl : i = n := by omega
          go_wp2
          go_roundw
          case measure => first | (simp [intOf]; done) | (simp [intOf]; omega)
          case rel =>
            refine ⟨k + 1, by go_num, by omega, ⟨fun j p hp => ?_⟩, hC2⟩
            by_cases hj : j = k
            · subst hj
              rw [hpA.out] at hp
              injection hp with hp
              subst hp
              refine ⟨xs, hX.out.1, fun _ => ?_⟩
              have := hX.out.2
              rw [List.take_of_length_le (by have := hX.out.1.len; simp only at this; omega)] at this
              exact this
            · obtain ⟨ys, h1, h2⟩ := hO.out j p hp hj
              exact ⟨ys, h1, fun h => h2 (by omega)⟩
    · have hkN : N = k := by omega
      subst hkN
      have hR1 : Aside0 (∀ (j : Nat) (p : Option Addr × Nat × Nat), vs[j]? = some p → RowB wr p (mkB j p.2.1)) := ⟨fun j p hp => by
        obtain ⟨xs, h1, h2⟩ := hR.out j p hp
        have hj : j < vs.length := (List.getElem?_eq_some_iff.1 hp).1
        rw [← h2 (by have := hNA.out; omega)]
        exact h1⟩
      clear hR
      go_wp2
      go_loopw [5, 6, 7, 8] (fun v5 i6 _ _ w2 => ∃ (k : Nat) (gs : List (Option Addr × Nat × Nat)) (gv : Option Addr × Nat × Nat), i6 = .int .i64 k ∧ v5 = .slice gv.1 gv.2.1 gv.2.2 ∧ k ≤ N ∧ Aside0 (gs.length = k) ∧ Aside0 (RowS w2 gv gs) ∧ Aside0 (∀ (j : Nat) (p : Option Addr × Nat × Nat), vs[j]? = some p → RowB w2 p (mkB j p.2.1)) ∧
        Aside0 (∀ (j : Nat) (p q : Option Addr × Nat × Nat), vs[j]? = some p → gs[j]? = some q → RowB w2 q (mkB j (p.2.1 + 64)) ∧ ((slv q).ownBlock = (slv p).ownBlock ∨ ∃ b, (slv q).ownBlock = some b ∧ wr.heap.size ≤ b)) ∧ Aside0 (Disj gs) ∧ Aside0 (∀ b, (slv gv).ownBlock = some b → wr.heap.size ≤ b) ∧ Aside0 (Chg (OwnS vs) wr w2)) (fun _ i6 _ _ _ => N - (intOf i6).toNat)
      case atStart => exact ⟨0, [], (none, 0, 0), rfl, rfl, by omega, ⟨rfl⟩, ⟨Kd.R_nil _ _ _ _ _⟩, hR1, ⟨fun j p q _ hq => by cases hq⟩, ⟨fun j k p q b hp => by cases hp⟩, ⟨fun b hb => by cases hb⟩, ⟨Chg.refl _ _⟩⟩
      case round =>
        obtain ⟨k, gs, gv, rfl, rfl, hk, hgl, hG, hP, hQ, hDg, hGn, hCw⟩ := hrel
        by_cases hlt : k < N
        · obtain ⟨p, hp⟩ : ∃ p, vs[k]? = some p := ⟨vs[k]'(by have := hNA.out; omega), List.getElem?_eq_getElem (by have := hNA.out; omega)⟩
          obtain ⟨hpn, _⟩ := hrA.out k p hp
          obtain rfl := hAA.out (by omega)
          have hCall := Aside0.mk (hCh.out.trans hCw.out (fun _ _ h => h))
          have x0 : wr.cell? ⟨B, k, none⟩ = some (.slice p.1 p.2.1 p.2.2) := cell_keep hCall.out hBA.out (hHA.out k p hp)
          have hk0 : (0 : Int) ≤ k := by omega
          have hk1 : (k : Int) < N := by omega
          have hpA := Aside0.mk hp
          have hbes : Aside0 (Beside wr vs gs gv k) := ⟨⟨hG.out, fun j q hq _ => hP.out j q hq, fun j q r hq hr => (hQ.out j q r hq hr).1⟩⟩
          have hvs : Aside0 (∀ (j : Nat) (r : Option Addr × Nat × Nat), gs[j]? = some r → ∃ q, vs[j]? = some q ∧ j < k) := ⟨fun j r hr => by
            have hj := (List.getElem?_eq_some_iff.1 hr).1
            have h2 := hgl.out
            have h3 := hNA.out
            exact ⟨vs[j]'(by omega), List.getElem?_eq_getElem (by omega), by omega⟩⟩
          have hnot : Aside0 (∀ b, ((slv p).ownBlock = some b ∨ wr.heap.size ≤ b) → NotOf vs gs gv k b) := ⟨fun b hb => by
            refine ⟨fun h => ?_, fun j q hq hj h => ?_, fun j r hr h => ?_⟩
            · rcases hb with hb | hb
              · exact rowS_ne hG.out (hP.out k p hpA.out) b hb h
              · have := Kd.R_lt hG.out b h; omega
            · rcases hb with hb | hb
              · exact hDA.out k j p q b hpA.out hq (Ne.symm hj) hb h
              · have := row_lt (hP.out j q hq) b h; omega
            · obtain ⟨q, hq, hjk⟩ := hvs.out j r hr
              obtain ⟨h1, h2⟩ := hQ.out j q r hq hr
              rcases hb with hb | hb
              · rcases h2 with h2 | ⟨b', h2, h3⟩
                · exact hDA.out j k q p b hq hpA.out (by omega) (h2 ▸ h) hb
                · rw [h] at h2; injection h2 with h2; have := row_lt (hR1.out k p hpA.out) b hb; omega
              · have := row_lt h1 b h; omega⟩
          have hRp := Aside0.mk (hP.out k p hpA.out)
          obtain ⟨P, n, c⟩ := p
          simp only at hpn x0
          clear hp
          go_wp2
          go_loopw [7, 8] (fun v7 i8 w3 => ∃ (i : Nat) (g : Option Addr × Nat × Nat), i8 = .int .i64 i ∧ v7 = .slice g.1 g.2.1 g.2.2 ∧ i ≤ 64 ∧ Aside0 (RowB w3 g (mkB k (n + i))) ∧ Aside0 (g = (P, n + i, c) ∨ ((∃ b, (slv g).ownBlock = some b ∧ wr.heap.size ≤ b) ∧ RowB w3 (P, n, c) (mkB k n))) ∧ Aside0 (Beside w3 vs gs gv k) ∧ Aside0 (Chg (fun b => (slv (P, n, c)).ownBlock = some b) wr w3)) (fun _ i8 _ => 64 - (intOf i8).toNat)
          case atStart => exact ⟨0, (P, n, c), rfl, rfl, by omega, hRp, ⟨.inl rfl⟩, hbes, ⟨Chg.refl _ _⟩⟩
          case round =>
            obtain ⟨i, g, rfl, rfl, hi, hX, hAlt, hBe, hC3⟩ := hrel
            have hC4 := Aside0.mk (hCall.out.trans hC3.out (fun b _ h => ⟨k, _, hpA.out, h⟩))
            have x1 : wr.cell? ⟨B, k, none⟩ = some (.slice P n c) := cell_keep hC4.out hBA.out (hHA.out k _ hpA.out)
            by_cases hil : i < 64
            · have hi0 : (0 : Int) ≤ i := by omega
              obtain ⟨x, hx⟩ : ∃ x : Int, x = (37 * ((k : Int) + 1) + ((n + i : Nat) : Int)) % 256 := ⟨_, rfl⟩
              have hw8 : IntKind.u8.wrap (37 * ((k : Int) + 1) + (n : Int) + (i : Int)) = x := by rw [hx]; simp [IntKind.wrap, IntKind.bits, IntKind.signed]; congr 1; omega
              have hxm : Aside0 (mkB k (n + i) ++ [x] = mkB k (n + (i + 1))) := ⟨by rw [hx, ← Nat.add_assoc, mkB_succ]⟩
              have hlen : Aside0 (((mkB k (n + i)).length + 1) * 1 ≤ 140737488355328) := ⟨by rw [mkB_length]; omega⟩
              have hO1 : Aside0 (Kd.R (Kd.int .u8) 5 wr 0 (New (fun b => (slv g).ownBlock = some b) wr wr) (.slice g.1 g.2.1 g.2.2) (mkB k (n + i))) := ⟨Kd.R_mono hX.out (fun b hb => .inl hb.symm)⟩
              have hRef := Aside0.mk (Chg.refl (fun b => (slv g).ownBlock = some b) wr)
              clear hx
              go_wp2_with (at_builtin; refine app1K (Kd.int .u8) rfl (.tmp 53) (.tmp 66) rfl Try.underlying25 infoU8 rfl (by decide) (by decide) x rfl rfl rfl hO1 hRef hlen ?_; go_must (intro v1 w1 hr1 hc1 halt); go_must (obtain ⟨A1, n1, c1, rfl⟩ := R_sl hr1.out))
              go_roundw
              case measure => first | (simp [intOf]; done) | (simp [intOf]; omega)
              case rel =>
                have hr2 := Kd.R_tight rfl hr1.out
                rw [hxm.out] at hr2
                refine ⟨i + 1, (A1, n1, c1), by go_num, rfl, by omega, ⟨hr2⟩, ⟨alt_step hX.out hAlt.out hC3.out.size (row_lt hRp.out) hc1.out halt.out⟩, ⟨hBe.out.chg hc1.out (fun b hb => hnot.out b (own_alt hAlt.out b hb))⟩, ⟨hC3.out.trans hc1.out (fun b hlt hb => ?_)⟩⟩
                rcases own_alt (n := n) hAlt.out b hb with h | h
                · exact h
                · omega
            · have hi64 : i = 64 := by omega
              subst hi64
              have hlen : Aside0 ((gs.length + 1) * 24 ≤ 140737488355328) := ⟨by rw [hgl.out]; omega⟩
              have hO1 : Aside0 (Kd.R kSl 25 wr 0 (New (fun b => (slv gv).ownBlock = some b) wr wr) (.slice gv.1 gv.2.1 gv.2.2) gs) := ⟨Kd.R_mono hBe.out.gr (fun b hb => .inl hb.symm)⟩
              have hRef := Aside0.mk (Chg.refl (fun b => (slv gv).ownBlock = some b) wr)
              go_wp2_with (at_builtin; refine app1 kSl rfl (.tmp 68) (.tmp 70) rfl Try.underlying38 infoSl rfl (by decide) (by decide) g rfl rfl (kSl_M _ _ _) hO1 hRef hlen ?_; go_must (intro v5 w5 hr5 hc5); go_must (obtain ⟨A5, n5, c5, rfl⟩ := R_sl hr5.out))
              go_roundw
              case measure => first | (simp [intOf]; done) | (simp [intOf]; omega)
              case rel =>
                have hgr := hBe.out.gr
                have hrp := alt_row hX.out hAlt.out
                have keep : ∀ {r : Option Addr × Nat × Nat} {xs : List Int}, RowB wr r xs → RowB w5 r xs := fun h => row_chg h hc5.out (fun b hb h' => rowS_ne hgr h b hb h')
                refine ⟨k + 1, gs ++ [g], (A5, n5, c5), by go_num, rfl, by omega, ⟨by rw [List.length_append, hgl.out]; rfl⟩, ⟨Kd.R_tight rfl hr5.out⟩, ⟨fun j q hq => ?_⟩, ⟨fun j q r hq hr => ?_⟩, ⟨disj_snoc hDg.out (fun b hb => (hnot.out b (own_alt hAlt.out b hb)).qs)⟩, ⟨fun b hb => ?_⟩, ⟨(hCw.out.trans hC3.out (fun b _ h => ⟨k, _, hpA.out, h⟩)).trans hc5.out (fun b hlt h => ?_)⟩⟩
                · by_cases hj : j = k
                  · subst hj
                    rw [hpA.out] at hq
                    injection hq with hq
                    subst hq
                    exact keep hrp
                  · exact keep (hBe.out.ps j q hq hj)
                · rcases Nat.lt_or_ge j gs.length with hj | hj
                  · rw [List.getElem?_append_left hj] at hr
                    exact ⟨keep (hBe.out.qs j q r hq hr), (hQ.out j q r hq hr).2⟩
                  · rw [List.getElem?_append_right hj] at hr
                    have hj0 : j - gs.length = 0 := by
                      have := (List.getElem?_eq_some_iff.1 hr).1
                      simp at this
                      omega
                    rw [hj0] at hr
                    simp at hr
                    subst hr
                    have hjk : j = k := by have := hgl.out; omega
                    subst hjk
                    rw [hpA.out] at hq
                    injection hq with hq
                    subst hq
                    exact ⟨keep hX.out, alt_own hCw.out.size hAlt.out⟩
                · rcases hr5.out.1 b hb with h | h
                  · exact hGn.out b h
                  · exact Nat.le_trans (Nat.le_trans hCw.out.size hC3.out.size) h.1
                · have := hGn.out b h; omega
        · have hkN : N = k := by omega
          subst hkN
          have hC9 := Aside0.mk (hCh.out.trans hCw.out (fun _ _ h => h))
          go_wp2
          go_loopw [9, 10, 11] (fun i9 _ _ w4 => ∃ k : Nat, i9 = .int .i64 k ∧ k ≤ N ∧ Aside0 (w4 = wr)) (fun i9 _ _ _ => N - (intOf i9).toNat)
          case atStart => exact ⟨0, rfl, by omega, ⟨rfl⟩⟩
          case round =>
            obtain ⟨k, rfl, hk, hwe⟩ := hrel
            obtain rfl := hwe.out
            by_cases hlt : k < N
            · obtain ⟨p, hp⟩ : ∃ p, vs[k]? = some p := ⟨vs[k]'(by have := hNA.out; omega), List.getElem?_eq_getElem (by have := hNA.out; omega)⟩
              obtain ⟨hpn, _⟩ := hrA.out k p hp
              obtain rfl := hAA.out (by omega)
              have x0 : wr.cell? ⟨B, k, none⟩ = some (.slice p.1 p.2.1 p.2.2) := cell_keep hC9.out hBA.out (hHA.out k p hp)
              obtain ⟨gq, gc, ge, _⟩ := Kd.R_form hG.out (by rw [hgl.out]; omega)
              have hgC := R_Cs hG.out
              obtain ⟨ad, q, e1, hq, y0⟩ := sl_at hgC k (by
                obtain ⟨h1, _, _⟩ := Kd.R_reads' hG.out
                rw [h1, hgl.out]; exact hlt)
              unfold slv at ge
              injection ge with ge1 ge2 ge3
              rw [ge1] at e1
              injection e1 with e1
              subst e1
              have hqr := Aside0.mk (hQ.out k p q hp hq).1
              have hpr := Aside0.mk (hP.out k p hp)
              have hk0 : (0 : Int) ≤ k := by omega
              have hk1 : (k : Int) < N := by omega
              have hgl2 : gs.length = N := hgl.out
              rw [hgl2] at ge2
              have y1 : wr.cell? ⟨gq, k, none⟩ = some (.slice q.1 q.2.1 q.2.2) := by
                have hadd : (⟨gq, 0, none⟩ : Addr).add k = ⟨gq, k, none⟩ := by unfold Addr.add; split <;> simp_all
                rw [hadd] at y0
                exact y0
              have hql := hqr.out.len
              rw [mkB_length] at hql
              obtain ⟨gg, e3, _⟩ := hqr.out.head (by rw [mkB_length]; omega)
              obtain ⟨Q, qn, qc⟩ := q
              obtain ⟨P, n, c⟩ := p
              simp only at hql e3 hpn x0 y1
              subst hql e3
              have ge1A := ge1
              clear ge3 y0 hp hq hgC
              go_wp2
              go_loopw [10, 11] (fun i10 _ w5 => ∃ i : Nat, i10 = .int .i64 i ∧ i ≤ n + 64 ∧ Aside0 (w5 = wr)) (fun i10 _ _ => n + 64 - (intOf i10).toNat)
              case atStart => exact ⟨0, rfl, by omega, ⟨rfl⟩⟩
              case round =>
                obtain ⟨i, rfl, hi, hwe⟩ := hrel
                obtain rfl := hwe.out
                by_cases hil : i < n + 64
                · have hi0 : (0 : Int) ≤ i := by omega
                  have hi1 : (i : Int) < (n : Int) + 64 := by omega
                  obtain ⟨x, hx⟩ : ∃ x : Int, x = (37 * ((k : Int) + 1) + (i : Int)) % 256 := ⟨_, rfl⟩
                  have hw8 : IntKind.u8.wrap (37 * ((k : Int) + 1) + (i : Int)) = x := by rw [hx]; simp [IntKind.wrap, IntKind.bits, IntKind.signed]
                  have z0 := hqr.out.cell (i := i) rfl (by simp only; omega)
                  rw [mkB_get hil, ← hx] at z0
                  by_cases hin : i < n
                  · obtain ⟨pg, e4, _⟩ := hpr.out.head (by rw [mkB_length]; first | omega | (simp only; omega))
                    simp only at e4
                    subst e4
                    have z1 := hpr.out.cell (i := i) rfl hin
                    rw [mkB_get hin, ← hx] at z1
                    have hin2 : (i : Int) < (n : Int) := by omega
                    clear hx
                    go_wp2
                    go_roundw
                    case measure => first | (simp [intOf]; done) | (simp [intOf]; omega)
                    case rel => exact ⟨i + 1, by go_num, by omega, ⟨by first | rfl | trivial⟩⟩
                  · have hin2 : ¬ (i : Int) < (n : Int) := by omega
                    clear hx
                    go_wp2
                    go_roundw
                    case measure => first | (simp [intOf]; done) | (simp [intOf]; omega)
                    case rel => exact ⟨i + 1, by go_num, by omega, ⟨by first | rfl | trivial⟩⟩
                · have hi64 : i = n + 64 := by omega
                  subst hi64
                  go_wp2
                  go_roundw
                  case measure => first | (simp [intOf]; done) | (simp [intOf]; omega)
                  case rel => first | exact ⟨k + 1, by go_num, by omega, ⟨by first | rfl | trivial⟩⟩ | exact ⟨k + 1, by go_num, by omega⟩ | (trace_state; sorry)
            · have hkN : gv.2.1 = gv.2.1 := rfl
              go_wp2
              go_ret
              exact ⟨rfl, hC9.out⟩

end Go.Proofs.Ytbheebcjbolboaa.K
