import Derived.Test.YtdoghjmanogelaaVa
import Derived.Test.YtdoghjmanogelaaUh
import Derived.IntWalk
import Derived.BigQuiet
import Derived.Test.YtdoghjmanogelaaTf
namespace Go.Proofs.Ytdoghjmanogelaa.K
open Go.RowKit Go.Proofs.YtdoghjmanogelaaW.PrintWords Go.Proofs.YtdoghjmanogelaaW.PrintLast Go.Proofs.YtdoghjmanogelaaW.PrintMore
set_option linter.unusedVariables false
set_option linter.unusedSimpArgs false
set_option maxRecDepth 100000
theorem infoSlI : (Try.prog.info? 52).map (fun i => (i.zero, i.size, i.bytes)) = some (some (.slice none 0 0), 1, 24) := by kernel_rfl
def mkI (k n : Nat) : List QV := (List.range n).map (fun i : Nat => (⟨-10 - (k : Int), (i : Int)⟩ : QV))
theorem mkI_length (k n : Nat) : (mkI k n).length = n := by simp [mkI]
theorem mkI_succ (k n : Nat) : mkI k (n + 1) = mkI k n ++ [⟨-10 - (k : Int), (n : Int)⟩] := by simp [mkI, List.range_succ]
theorem mkI_get {k n i : Nat} (h : i < n) : (mkI k n)[i]? = some ⟨-10 - (k : Int), (i : Int)⟩ := by
  rw [mkI, List.getElem?_map, List.getElem?_range h]; rfl
theorem mkI_take {k n m : Nat} (h : m ≤ n) : (mkI k n).take m = mkI k m := by
  simp [mkI, ← List.map_take, List.take_range, Nat.min_eq_left h]
abbrev RowI (W : World) (p : Option Addr × Nat × Nat) (xs : List QV) : Prop := Kd.R kQV 56 W 0 (fun b => some b = (slv p).ownBlock) (slv p) xs
theorem RowI.len {W : World} {p : Option Addr × Nat × Nat} {xs : List QV} (h : RowI W p xs) : p.2.1 = xs.length := by
  obtain ⟨h1, _, _⟩ := Kd.R_reads' h
  exact h1
theorem RowI.head {W : World} {p : Option Addr × Nat × Nat} {xs : List QV} (h : RowI W p xs) (h0 : 0 < xs.length) : ∃ g, p.1 = some ⟨g, 0, none⟩ ∧ (slv p).ownBlock = some g := by
  obtain ⟨g, cap, e, _⟩ := Kd.R_form h h0
  unfold slv at e
  injection e with e1 e2 e3
  exact ⟨g, e1, by unfold slv; rw [e1]; rfl⟩
theorem take_setI {xs : List QV} {i : Nat} {x : QV} (h : i < xs.length) : (xs.set i x).take (i + 1) = xs.take i ++ [x] := by
  have e1 : (xs.set i x).take i = xs.take i := by rw [List.take_set, List.set_eq_of_length_le (by rw [List.length_take]; omega)]
  rw [List.take_succ_eq_append_getElem (by simpa using h), e1]
  simp
theorem addI (g m : Nat) : (⟨g, 0, none⟩ : Addr).add m = ⟨g, m, none⟩ := by unfold Addr.add; split <;> simp_all
theorem R_CI {e n c : Nat} {w : World} {ok : Nat → Prop} {A : Option Addr} {xs : List QV} (h : Kd.R kQV e w 0 ok (.slice A n c) xs) : Kd.C kQV w A n xs := by
  obtain ⟨h1, _, h3⟩ := Kd.R_reads' h
  rw [← h1] at h3
  exact h3
theorem RowI.cell {W : World} {p : Option Addr × Nat × Nat} {xs : List QV} {g i : Nat} {x : QV} (h : RowI W p xs) (hg : p.1 = some ⟨g, 0, none⟩) (hx : xs[i]? = some x) : W.cell? ⟨g, i * 2, none⟩ = some (.int .i64 x.kind) ∧ W.cell? ⟨g, i * 2 + 1, none⟩ = some (.int .i64 x.n) := by
  obtain ⟨P, n, c⟩ := p
  subst hg
  have hl := h.len
  have hi : i < n := by have := (List.getElem?_eq_some_iff.1 hx).1; simp only at hl; omega
  obtain ⟨ad, op, a, e1, e2, c0, c1⟩ := kQV_at (R_CI h) i hi
  injection e1 with e1
  subst e1
  rw [hx] at e2
  injection e2 with e2
  subst e2
  rw [addI] at c0 c1
  exact ⟨c0, c1⟩
theorem row_takeI {W : World} {P : Option Addr} {m n c : Nat} {xs : List QV} (h : RowI W (P, m, c) xs) (hn : n ≤ xs.length) : RowI W (P, n, c) (xs.take n) := by
  cases P with
  | none => exact Kd.R_take (A := none) h hn
  | some a => exact Kd.R_take (A := some a) h hn
theorem row_chgI {S : Nat → Prop} {W W' : World} {r : Option Addr × Nat × Nat} {xs : List QV} (h : RowI W r xs) (hc : Chg S W W') (hS : ∀ b, (slv r).ownBlock = some b → ¬ S b) : RowI W' r xs := R_chg h hc (fun b _ hb hs => hS b hb.symm hs)
theorem row_ltI {W : World} {r : Option Addr × Nat × Nat} {xs : List QV} (h : RowI W r xs) : ∀ b, (slv r).ownBlock = some b → b < W.heap.size := Kd.R_lt h
abbrev RowZ (W : World) (gv : Option Addr × Nat × Nat) (gs : List (Option Addr × Nat × Nat)) : Prop := Kd.R kSl 52 W 0 (fun b => some b = (slv gv).ownBlock) (slv gv) gs
theorem rowZ_ne {W : World} {gv r : Option Addr × Nat × Nat} {gs : List (Option Addr × Nat × Nat)} {xs : List QV} (h : RowZ W gv gs) (hr : RowI W r xs) : ∀ b, (slv r).ownBlock = some b → (slv gv).ownBlock ≠ some b := by
  intro b hb hg
  obtain ⟨c1, e1⟩ := Kd.R_typed h b hg
  obtain ⟨c2, e2⟩ := Kd.R_typed hr b hb
  rw [e1] at e2
  injection e2 with e2
  injection e2 with _ e2
  exact absurd e2 (by decide)
structure BesideI (W : World) (vs gs : List (Option Addr × Nat × Nat)) (gv : Option Addr × Nat × Nat) (k : Nat) : Prop where
  gr : RowZ W gv gs
  ps : ∀ (j : Nat) (p : Option Addr × Nat × Nat), vs[j]? = some p → j ≠ k → RowI W p (mkI j p.2.1)
  qs : ∀ (j : Nat) (p q : Option Addr × Nat × Nat), vs[j]? = some p → gs[j]? = some q → RowI W q (mkI j (p.2.1 + 64))
theorem BesideI.chg {S : Nat → Prop} {W W' : World} {vs gs : List (Option Addr × Nat × Nat)} {gv : Option Addr × Nat × Nat} {k : Nat} (h : BesideI W vs gs gv k) (hc : Chg S W W') (hS : ∀ b, S b → NotOf vs gs gv k b) : BesideI W' vs gs gv k :=
  ⟨R_chg h.gr hc (fun b _ hb hs => (hS b hs).gr hb.symm), fun j p hp hj => row_chgI (h.ps j p hp hj) hc (fun b hb hs => (hS b hs).ps j p hp hj hb), fun j p q hp hq => row_chgI (h.qs j p q hp hq) hc (fun b hb hs => (hS b hs).qs j q hq hb)⟩
theorem alt_stepI {W w1 : World} {g : Option Addr × Nat × Nat} {P A1 : Option Addr} {n c i N k n1 c1 : Nat} (hX : RowI W g (mkI k (n + i))) (hAlt : g = (P, n + i, c) ∨ ((∃ b, (slv g).ownBlock = some b ∧ N ≤ b) ∧ RowI W (P, n, c) (mkI k n))) (hNW : N ≤ W.heap.size) (hpl : ∀ b, (slv (P, n, c)).ownBlock = some b → b < N)
    (hc1 : Chg (fun b => (slv g).ownBlock = some b) W w1)
    (halt : (∃ gb cc, slv g = .slice (some ⟨gb, 0, none⟩) (mkI k (n + i)).length cc ∧ Value.slice A1 n1 c1 = .slice (some ⟨gb, 0, none⟩) ((mkI k (n + i)).length + 1) cc) ∨ (Chg (fun _ => False) W w1 ∧ ∃ b, (Value.slice A1 n1 c1).ownBlock = some b ∧ W.heap.size ≤ b)) :
    (A1, n1, c1) = (P, n + (i + 1), c) ∨ ((∃ b, (slv (A1, n1, c1)).ownBlock = some b ∧ N ≤ b) ∧ RowI w1 (P, n, c) (mkI k n)) := by
  rcases halt with ⟨gb, cc, e1, e2⟩ | ⟨hq, b, hb, hW⟩
  · rw [mkI_length] at e1 e2
    injection e2 with f1 f2 f3
    have hog : (slv g).ownBlock = some gb := by rw [e1]; rfl
    rcases hAlt with h | ⟨⟨b, h1, h2⟩, h3⟩
    · subst h
      unfold slv at e1
      injection e1 with g1 g2 g3
      left
      simp only at g1 g3
      rw [f1, f2, f3, g1, g3]
      rfl
    · right
      refine ⟨⟨gb, by unfold slv; simp only; rw [f1]; rfl, ?_⟩, row_chgI h3 hc1 (fun b' hb' h' => ?_)⟩
      · rw [hog] at h1; injection h1 with h1; omega
      · have := hpl b' hb'
        rw [h'] at h1; injection h1 with h1; omega
  · right
    refine ⟨⟨b, hb, by omega⟩, ?_⟩
    rcases hAlt with h | ⟨_, h3⟩
    · subst h
      have := row_takeI (n := n) hX (by rw [mkI_length]; omega)
      rw [mkI_take (by omega)] at this
      exact row_chgI this hq (fun _ _ h => h)
    · exact row_chgI h3 hq (fun _ _ h => h)
theorem alt_rowI {W : World} {g : Option Addr × Nat × Nat} {P : Option Addr} {n c i N k : Nat} (hX : RowI W g (mkI k (n + i))) (hAlt : g = (P, n + i, c) ∨ ((∃ b, (slv g).ownBlock = some b ∧ N ≤ b) ∧ RowI W (P, n, c) (mkI k n))) : RowI W (P, n, c) (mkI k n) := by
  rcases hAlt with h | ⟨_, h⟩
  · subst h
    have := row_takeI (n := n) hX (by rw [mkI_length]; omega)
    rwa [mkI_take (by omega)] at this
  · exact h
theorem kQV_Meq {w : World} {base : Nat} {ok : Nat → Prop} {p : QV} {cs : List Value} (h : kQV.M w base ok p cs) : cs = [.int .i64 p.kind, .int .i64 p.n] := by
  obtain ⟨a, b, e, h1, h2⟩ := h
  have h1 : a = [.int .i64 p.kind] := h1
  have h2 : b = [.int .i64 p.n] := h2
  rw [e, h1, h2]
  rfl
theorem put2_list {l : List Value} {i : Nat} {a b : Value} (h : i * 2 + 2 ≤ l.length) : (l.set (i * 2) a).set (i * 2 + 1) b = l.take (i * 2) ++ [a, b] ++ l.drop (i * 2 + 2) := by
  apply List.ext_getElem?
  intro q
  rw [List.getElem?_set, List.getElem?_set, List.append_assoc, List.getElem?_append, List.length_take, List.getElem?_take]
  rcases Nat.lt_or_ge q (i * 2) with hq | hq
  · rw [if_neg (by omega), if_neg (by omega), if_pos (by omega), if_pos hq]
  · rw [if_neg (by omega : ¬ q < min (i * 2) l.length), List.getElem?_append, show min (i * 2) l.length = i * 2 by omega]
    by_cases h0 : q = i * 2
    · subst h0; simp; omega
    · by_cases h1 : q = i * 2 + 1
      · subst h1; simp; omega
      · rw [if_neg (by omega), if_neg (by omega), if_neg (by simp; omega), List.getElem?_drop]
        congr 1
        simp
        omega
theorem RowI.block {W : World} {g n c : Nat} {xs : List QV} (h : RowI W (some ⟨g, 0, none⟩, n, c) xs) : ∃ cur, W.heap[g]? = some (.cells cur 56 (0, 0)) ∧ cur.size = c * 2 ∧ n ≤ c ∧ c ≤ maxLen ∧ Reps (fun p cs => cs = [.int .i64 p.kind, .int .i64 p.n]) 2 xs (cur.toList.take (n * 2)) ∧ n = xs.length := by
  obtain ⟨_, inner, ho, hr⟩ := h
  rcases ho.2 with ⟨h1, _⟩ | ⟨g', cap', cur, hv, _, hg, hnc, hcm, hcs, ht⟩
  · cases h1
  · unfold slv at hv
    injection hv with e1 e2 e3
    injection e1 with e1
    injection e1 with e1 _ _
    simp only at e2 e3
    subst e1 e3
    refine ⟨cur, hg, hcs, by omega, hcm, ?_, e2⟩
    have hr2 : Reps (fun (p : QV) cs => cs = [.int .i64 p.kind, .int .i64 p.n]) 2 xs inner := hr.imp_ (fun _ _ h => kQV_Meq h)
    rw [← ht] at hr2
    rw [e2]
    exact hr2
theorem RowI.put {W : World} {g n c i : Nat} {xs : List QV} (x : QV) (h : RowI W (some ⟨g, 0, none⟩, n, c) xs) (hi : i < n) : RowI ((W.setCell ⟨g, i * 2, none⟩ (.int .i64 x.kind)).setCell ⟨g, i * 2 + 1, none⟩ (.int .i64 x.n)) (some ⟨g, 0, none⟩, n, c) (xs.set i x) := by
  obtain ⟨cur, hg, hcs, hnc, hcm, hr, hn⟩ := h.block
  have hb := blk_set (blk_set hg (i * 2) (.int .i64 x.kind)) (i * 2 + 1) (.int .i64 x.n)
  refine ⟨fun k hk => hk.symm, (((cur.toList.take (n * 2)).set (i * 2) (.int .i64 x.kind)).set (i * 2 + 1) (.int .i64 x.n)), ⟨?_, ?_⟩, ?_⟩
  · have := hr.1
    rw [List.length_set, List.length_set, List.length_set, this]
    rfl
  · right
    refine ⟨g, c, _, by rw [List.length_set, ← hn]; rfl, Nat.zero_le _, hb, by rw [List.length_set, ← hn]; exact hnc, hcm, by rw [Array.size_setIfInBounds, Array.size_setIfInBounds]; exact hcs, ?_⟩
    rw [List.length_set, ← hn]
    show (List.take (n * 2) _) = _
    simp only [Array.toList_setIfInBounds, List.take_set]
  · have hl : n * 2 ≤ cur.toList.length := by rw [Array.length_toList, hcs]; omega
    rw [put2_list (by rw [List.length_take]; omega)]
    have h2 := Kd.reps_set hr (i := i) (by omega) (x := x) (seg := [.int .i64 x.kind, .int .i64 x.n]) rfl rfl
    exact h2.imp_ (fun p cs hp => by subst hp; exact kQV_M _ _ _ _)
theorem RowI.cells {W : World} {g n c i : Nat} {xs : List QV} (h : RowI W (some ⟨g, 0, none⟩, n, c) xs) (hi : i < n) : ∃ u0 u1, W.cell? ⟨g, i * 2, none⟩ = some u0 ∧ W.cell? ⟨g, i * 2 + 1, none⟩ = some u1 ∧ W.frozen? ⟨g, i * 2, none⟩ = false ∧ W.frozen? ⟨g, i * 2 + 1, none⟩ = false := by
  obtain ⟨cur, hg, hcs, hnc, hcm, hr, hn⟩ := h.block
  obtain ⟨u0, h0⟩ : ∃ u, cur[i * 2]? = some u := ⟨_, Array.getElem?_eq_getElem (by omega)⟩
  obtain ⟨u1, h1⟩ : ∃ u, cur[i * 2 + 1]? = some u := ⟨_, Array.getElem?_eq_getElem (by omega)⟩
  exact ⟨u0, u1, by rw [blk_cell hg]; exact h0, by rw [blk_cell hg]; exact h1, blk_frozen hg _, blk_frozen hg _⟩
set_option maxHeartbeats 4000000
theorem kit_ApartValues (w : World) (A : Option Addr) (N cap B : Nat) (vs : List (Option Addr × Nat × Nat)) (hN : vs.length = N) (hNb : N ≤ 1099511627776) (hA : 0 < N → A = some ⟨B, 0, none⟩) (hH : ∀ (k : Nat) (p : Option Addr × Nat × Nat), vs[k]? = some p → w.cell? ⟨B, k, none⟩ = some (slv p)) (hB : ¬ OwnS vs B)
    (hrow : ∀ (k : Nat) (p : Option Addr × Nat × Nat), vs[k]? = some p → p.2.1 ≤ 8796093022000 ∧ ∃ xs, RowI w p xs) (hD : Disj vs) :
    Calls Try.prog 28 #[.slice A N cap] w fun e w' => e = .returned (.bool true) ∧ Chg (OwnS vs) w w' ∧ ∀ (j : Nat) (p : Option Addr × Nat × Nat), vs[j]? = some p → RowI w' p (mkI j p.2.1) := by
  have hHA := Aside0.mk hH
  have hrA := Aside0.mk hrow
  have hDA := Aside0.mk hD
  have hBA := Aside0.mk hB
  have hAA := Aside0.mk hA
  have hNA := Aside0.mk hN
  clear hH hrow hD hB hA hN
  go_enter Try.func28, Try.ntmps28
  go_wp2
  go_loopw [3, 4] (fun ik _ wr => ∃ k : Nat, ik = .int .i64 k ∧ k ≤ N ∧ Aside0 (∀ (j : Nat) (p : Option Addr × Nat × Nat), vs[j]? = some p → ∃ xs, RowI wr p xs ∧ (j < k → xs = mkI j p.2.1)) ∧ Aside0 (Chg (OwnS vs) w wr)) (fun ik _ _ => N - (intOf ik).toNat)
  case atStart => exact ⟨0, rfl, by omega, ⟨fun j p hp => by obtain ⟨_, xs, h⟩ := hrA.out j p hp; exact ⟨xs, h, fun h => by omega⟩⟩, ⟨Chg.refl _ _⟩⟩
  case round =>
    obtain ⟨k, rfl, hk, hR, hCh⟩ := hrel
    by_cases hlt : k < N
    · obtain ⟨p, hp⟩ : ∃ p, vs[k]? = some p := ⟨vs[k]'(by have := hNA.out; omega), List.getElem?_eq_getElem (by have := hNA.out; omega)⟩
      obtain ⟨hpn, _⟩ := hrA.out k p hp
      obtain rfl := hAA.out (by omega)
      have x0 : wr.cell? ⟨B, k, none⟩ = some (.slice p.1 p.2.1 p.2.2) := cell_keep hCh.out hBA.out (hHA.out k p hp)
      have hk0 : (0 : Int) ≤ k := by omega
      have hk1 : (k : Int) < N := by omega
      have hpA := Aside0.mk hp
      obtain ⟨P, n, c⟩ := p
      simp only at hpn x0
      clear hp
      go_wp2
      go_loopw [4] (fun ii w2 => ∃ (i : Nat) (xs : List QV), ii = .int .i64 i ∧ i ≤ n ∧ Aside0 (RowI w2 (P, n, c) xs ∧ xs.take i = mkI k i) ∧ Aside0 (∀ (j : Nat) (p : Option Addr × Nat × Nat), vs[j]? = some p → j ≠ k → ∃ xs, RowI w2 p xs ∧ (j < k → xs = mkI j p.2.1)) ∧ Aside0 (Chg (OwnS vs) w w2)) (fun ii _ => n - (intOf ii).toNat)
      case atStart =>
        obtain ⟨xs, h1, _⟩ := hR.out k _ hpA.out
        exact ⟨0, xs, rfl, by omega, ⟨h1, by simp [mkI]⟩, ⟨fun j p hp _ => hR.out j p hp⟩, hCh⟩
      case round =>
        obtain ⟨i, xs, rfl, hi, hX, hO, hC2⟩ := hrel
        have x1 : wr.cell? ⟨B, k, none⟩ = some (.slice P n c) := cell_keep hC2.out hBA.out (hHA.out k _ hpA.out)
        by_cases hil : i < n
        · have hlen := hX.out.1.len
          simp only at hlen
          obtain ⟨g, e1, e2⟩ := hX.out.1.head (by omega)
          simp only at e1
          subst e1
          obtain ⟨u0, u1, c0, c1, f0, f1⟩ := hX.out.1.cells hil
          have hi0 : (0 : Int) ≤ i := by omega
          have hi1 : (i : Int) < n := by omega
          have hwk : IntKind.i64.wrap (-10 - (k : Int)) = -10 - (k : Int) := by simp [IntKind.wrap, IntKind.bits, IntKind.signed]; omega
          have hX2 : Aside0 (RowI ((wr.setCell ⟨g, i * 2, none⟩ (.int .i64 (-10 - (k : Int)))).setCell ⟨g, i * 2 + 1, none⟩ (.int .i64 (i : Int))) (some ⟨g, 0, none⟩, n, c) (xs.set i ⟨-10 - (k : Int), (i : Int)⟩) ∧ (xs.set i ⟨-10 - (k : Int), (i : Int)⟩).take (i + 1) = mkI k (i + 1)) := ⟨hX.out.1.put ⟨-10 - (k : Int), (i : Int)⟩ hil, by rw [take_setI (by omega), hX.out.2, mkI_succ]⟩
          have hcs : Aside0 (Chg (fun b => b = g) wr ((wr.setCell ⟨g, i * 2, none⟩ (.int .i64 (-10 - (k : Int)))).setCell ⟨g, i * 2 + 1, none⟩ (.int .i64 (i : Int)))) := ⟨((Chg.refl (fun b => b = g) wr).setCell (p := ⟨g, i * 2, none⟩) (fun _ => rfl) _).setCell (p := ⟨g, i * 2 + 1, none⟩) (fun _ => rfl) _⟩
          have e2A := Aside0.mk e2
          clear e2 hlen
          go_wp2
          go_roundw
          case measure => first | (simp [intOf]; done) | (simp [intOf]; omega)
          case rel =>
            refine ⟨i + 1, _, by go_num, by omega, hX2, ⟨fun j p hp hj => ?_⟩, ⟨hC2.out.trans hcs.out (fun b _ h => ⟨k, _, hpA.out, h ▸ e2A.out⟩)⟩⟩
            obtain ⟨ys, h1, h2⟩ := hO.out j p hp hj
            exact ⟨ys, R_chg h1 hcs.out (fun b _ hb h => by subst h; exact hDA.out k j _ p _ hpA.out hp (Ne.symm hj) e2A.out hb.symm), h2⟩
        · obtain rfl : i = n := by omega
          go_wp2
          go_roundw
          case measure => first | (simp [intOf]; done) | (simp [intOf]; omega)
          case rel =>
            refine ⟨k + 1, by go_num, by omega, ⟨fun j p hp => ?_⟩, hC2⟩
            by_cases hj : j = k
            · subst hj
              rw [hpA.out] at hp
              injection hp with hp
              subst hp
              refine ⟨xs, hX.out.1, fun _ => ?_⟩
              have := hX.out.2
              rw [List.take_of_length_le (by have := hX.out.1.len; simp only at this; omega)] at this
              exact this
            · obtain ⟨ys, h1, h2⟩ := hO.out j p hp hj
              exact ⟨ys, h1, fun h => h2 (by omega)⟩
    · have hkN : N = k := by omega
      subst hkN
      have hR1 : Aside0 (∀ (j : Nat) (p : Option Addr × Nat × Nat), vs[j]? = some p → RowI wr p (mkI j p.2.1)) := ⟨fun j p hp => by
        obtain ⟨xs, h1, h2⟩ := hR.out j p hp
        have hj : j < vs.length := (List.getElem?_eq_some_iff.1 hp).1
        rw [← h2 (by have := hNA.out; omega)]
        exact h1⟩
      clear hR
      go_wp2
      go_loopw [5, 6, 7, 8] (fun v5 i6 _ _ w2 => ∃ (k : Nat) (gs : List (Option Addr × Nat × Nat)) (gv : Option Addr × Nat × Nat), i6 = .int .i64 k ∧ v5 = .slice gv.1 gv.2.1 gv.2.2 ∧ k ≤ N ∧ Aside0 (gs.length = k) ∧ Aside0 (RowZ w2 gv gs) ∧ Aside0 (∀ (j : Nat) (p : Option Addr × Nat × Nat), vs[j]? = some p → RowI w2 p (mkI j p.2.1)) ∧
        Aside0 (∀ (j : Nat) (p q : Option Addr × Nat × Nat), vs[j]? = some p → gs[j]? = some q → RowI w2 q (mkI j (p.2.1 + 64)) ∧ ((slv q).ownBlock = (slv p).ownBlock ∨ ∃ b, (slv q).ownBlock = some b ∧ wr.heap.size ≤ b)) ∧ Aside0 (Disj gs) ∧ Aside0 (∀ b, (slv gv).ownBlock = some b → wr.heap.size ≤ b) ∧ Aside0 (Chg (OwnS vs) wr w2)) (fun _ i6 _ _ _ => N - (intOf i6).toNat)
      case atStart => exact ⟨0, [], (none, 0, 0), rfl, rfl, by omega, ⟨rfl⟩, ⟨Kd.R_nil _ _ _ _ _⟩, hR1, ⟨fun j p q _ hq => by cases hq⟩, ⟨fun j k p q b hp => by cases hp⟩, ⟨fun b hb => by cases hb⟩, ⟨Chg.refl _ _⟩⟩
      case round =>
        obtain ⟨k, gs, gv, rfl, rfl, hk, hgl, hG, hP, hQ, hDg, hGn, hCw⟩ := hrel
        by_cases hlt : k < N
        · obtain ⟨p, hp⟩ : ∃ p, vs[k]? = some p := ⟨vs[k]'(by have := hNA.out; omega), List.getElem?_eq_getElem (by have := hNA.out; omega)⟩
          obtain ⟨hpn, _⟩ := hrA.out k p hp
          obtain rfl := hAA.out (by omega)
          have hCall := Aside0.mk (hCh.out.trans hCw.out (fun _ _ h => h))
          have x0 : wr.cell? ⟨B, k, none⟩ = some (.slice p.1 p.2.1 p.2.2) := cell_keep hCall.out hBA.out (hHA.out k p hp)
          have hk0 : (0 : Int) ≤ k := by omega
          have hk1 : (k : Int) < N := by omega
          have hpA := Aside0.mk hp
          have hbes : Aside0 (BesideI wr vs gs gv k) := ⟨⟨hG.out, fun j q hq _ => hP.out j q hq, fun j q r hq hr => (hQ.out j q r hq hr).1⟩⟩
          have hvs : Aside0 (∀ (j : Nat) (r : Option Addr × Nat × Nat), gs[j]? = some r → ∃ q, vs[j]? = some q ∧ j < k) := ⟨fun j r hr => by
            have hj := (List.getElem?_eq_some_iff.1 hr).1
            have h2 := hgl.out
            have h3 := hNA.out
            exact ⟨vs[j]'(by omega), List.getElem?_eq_getElem (by omega), by omega⟩⟩
          have hnot : Aside0 (∀ b, ((slv p).ownBlock = some b ∨ wr.heap.size ≤ b) → NotOf vs gs gv k b) := ⟨fun b hb => by
            refine ⟨fun h => ?_, fun j q hq hj h => ?_, fun j r hr h => ?_⟩
            · rcases hb with hb | hb
              · exact rowZ_ne hG.out (hP.out k p hpA.out) b hb h
              · have := Kd.R_lt hG.out b h; omega
            · rcases hb with hb | hb
              · exact hDA.out k j p q b hpA.out hq (Ne.symm hj) hb h
              · have := row_ltI (hP.out j q hq) b h; omega
            · obtain ⟨q, hq, hjk⟩ := hvs.out j r hr
              obtain ⟨h1, h2⟩ := hQ.out j q r hq hr
              rcases hb with hb | hb
              · rcases h2 with h2 | ⟨b', h2, h3⟩
                · exact hDA.out j k q p b hq hpA.out (by omega) (h2 ▸ h) hb
                · rw [h] at h2; injection h2 with h2; have := row_ltI (hR1.out k p hpA.out) b hb; omega
              · have := row_ltI h1 b h; omega⟩
          have hRp := Aside0.mk (hP.out k p hpA.out)
          obtain ⟨P, n, c⟩ := p
          simp only at hpn x0
          clear hp
          go_wp2
          go_loopw [7, 8] (fun v7 i8 w3 => ∃ (i : Nat) (g : Option Addr × Nat × Nat), i8 = .int .i64 i ∧ v7 = .slice g.1 g.2.1 g.2.2 ∧ i ≤ 64 ∧ Aside0 (RowI w3 g (mkI k (n + i))) ∧ Aside0 (g = (P, n + i, c) ∨ ((∃ b, (slv g).ownBlock = some b ∧ wr.heap.size ≤ b) ∧ RowI w3 (P, n, c) (mkI k n))) ∧ Aside0 (BesideI w3 vs gs gv k) ∧ Aside0 (Chg (fun b => (slv (P, n, c)).ownBlock = some b) wr w3)) (fun _ i8 _ => 64 - (intOf i8).toNat)
          case atStart => exact ⟨0, (P, n, c), rfl, rfl, by omega, hRp, ⟨.inl rfl⟩, hbes, ⟨Chg.refl _ _⟩⟩
          case round =>
            obtain ⟨i, g, rfl, rfl, hi, hX, hAlt, hBe, hC3⟩ := hrel
            have hC4 := Aside0.mk (hCall.out.trans hC3.out (fun b _ h => ⟨k, _, hpA.out, h⟩))
            have x1 : wr.cell? ⟨B, k, none⟩ = some (.slice P n c) := cell_keep hC4.out hBA.out (hHA.out k _ hpA.out)
            by_cases hil : i < 64
            · have hi0 : (0 : Int) ≤ i := by omega
              have hwk : IntKind.i64.wrap (-10 - (k : Int)) = -10 - (k : Int) := by simp [IntKind.wrap, IntKind.bits, IntKind.signed]; omega
              have hxm : Aside0 (mkI k (n + i) ++ [⟨-10 - (k : Int), ((n : Int) + (i : Int))⟩] = mkI k (n + (i + 1))) := ⟨by rw [← Nat.add_assoc, mkI_succ]; congr⟩
              have hlen : Aside0 (((mkI k (n + i)).length + 1) * 16 ≤ 140737488355328) := ⟨by rw [mkI_length]; omega⟩
              have hO1 : Aside0 (Kd.R kQV 56 wr 0 (New (fun b => (slv g).ownBlock = some b) wr wr) (.slice g.1 g.2.1 g.2.2) (mkI k (n + i))) := ⟨Kd.R_mono hX.out (fun b hb => .inl hb.symm)⟩
              have hRef := Aside0.mk (Chg.refl (fun b => (slv g).ownBlock = some b) wr)
              go_wp2_with (at_builtin; refine app1K kQV rfl (.tmp 51) (.tmp 62) rfl Try.underlying52 infoQV rfl (by decide) (by decide) (⟨-10 - (k : Int), ((n : Int) + (i : Int))⟩ : QV) rfl rfl (kQV_M _ _ _ _) hO1 hRef hlen ?_; go_must (intro v1 w1 hr1 hc1 halt); go_must (obtain ⟨A1, n1, c1, rfl⟩ := R_sl hr1.out))
              go_roundw
              case measure => first | (simp [intOf]; done) | (simp [intOf]; omega)
              case rel =>
                have hr2 := Kd.R_tight rfl hr1.out
                rw [hxm.out] at hr2
                refine ⟨i + 1, (A1, n1, c1), by go_num, rfl, by omega, ⟨hr2⟩, ⟨alt_stepI hX.out hAlt.out hC3.out.size (row_ltI hRp.out) hc1.out halt.out⟩, ⟨hBe.out.chg hc1.out (fun b hb => hnot.out b (own_alt hAlt.out b hb))⟩, ⟨hC3.out.trans hc1.out (fun b hlt hb => ?_)⟩⟩
                rcases own_alt (n := n) hAlt.out b hb with h | h
                · exact h
                · omega
            · have hi64 : i = 64 := by omega
              subst hi64
              have hlen : Aside0 ((gs.length + 1) * 24 ≤ 140737488355328) := ⟨by rw [hgl.out]; omega⟩
              have hO1 : Aside0 (Kd.R kSl 52 wr 0 (New (fun b => (slv gv).ownBlock = some b) wr wr) (.slice gv.1 gv.2.1 gv.2.2) gs) := ⟨Kd.R_mono hBe.out.gr (fun b hb => .inl hb.symm)⟩
              have hRef := Aside0.mk (Chg.refl (fun b => (slv gv).ownBlock = some b) wr)
              go_wp2_with (at_builtin; refine app1 kSl rfl (.tmp 64) (.tmp 66) rfl Try.underlying41 infoSlI rfl (by decide) (by decide) g rfl rfl (kSl_M _ _ _) hO1 hRef hlen ?_; go_must (intro v5 w5 hr5 hc5); go_must (obtain ⟨A5, n5, c5, rfl⟩ := R_sl hr5.out))
              go_roundw
              case measure => first | (simp [intOf]; done) | (simp [intOf]; omega)
              case rel =>
                have hgr := hBe.out.gr
                have hrp := alt_rowI hX.out hAlt.out
                have keep : ∀ {r : Option Addr × Nat × Nat} {xs : List QV}, RowI wr r xs → RowI w5 r xs := fun h => row_chgI h hc5.out (fun b hb h' => rowZ_ne hgr h b hb h')
                refine ⟨k + 1, gs ++ [g], (A5, n5, c5), by go_num, rfl, by omega, ⟨by rw [List.length_append, hgl.out]; rfl⟩, ⟨Kd.R_tight rfl hr5.out⟩, ⟨fun j q hq => ?_⟩, ⟨fun j q r hq hr => ?_⟩, ⟨disj_snoc hDg.out (fun b hb => (hnot.out b (own_alt hAlt.out b hb)).qs)⟩, ⟨fun b hb => ?_⟩, ⟨(hCw.out.trans hC3.out (fun b _ h => ⟨k, _, hpA.out, h⟩)).trans hc5.out (fun b hlt h => ?_)⟩⟩
                · by_cases hj : j = k
                  · subst hj
                    rw [hpA.out] at hq
                    injection hq with hq
                    subst hq
                    exact keep hrp
                  · exact keep (hBe.out.ps j q hq hj)
                · rcases Nat.lt_or_ge j gs.length with hj | hj
                  · rw [List.getElem?_append_left hj] at hr
                    exact ⟨keep (hBe.out.qs j q r hq hr), (hQ.out j q r hq hr).2⟩
                  · rw [List.getElem?_append_right hj] at hr
                    have hj0 : j - gs.length = 0 := by
                      have := (List.getElem?_eq_some_iff.1 hr).1
                      simp at this
                      omega
                    rw [hj0] at hr
                    simp at hr
                    subst hr
                    have hjk : j = k := by have := hgl.out; omega
                    subst hjk
                    rw [hpA.out] at hq
                    injection hq with hq
                    subst hq
                    exact ⟨keep hX.out, alt_own hCw.out.size hAlt.out⟩
                · rcases hr5.out.1 b hb with h | h
                  · exact hGn.out b h
                  · exact Nat.le_trans (Nat.le_trans hCw.out.size hC3.out.size) h.1
                · have := hGn.out b h; omega
        · have hkN : N = k := by omega
          subst hkN
          have hC9 := Aside0.mk (hCh.out.trans hCw.out (fun _ _ h => h))
          obtain ⟨gA, gn, gc0⟩ := gv
          simp only
          go_wp2
          go_loopw [9, 10, 11] (fun i9 _ _ w4 => ∃ k : Nat, i9 = .int .i64 k ∧ k ≤ N ∧ Aside0 (Chg (fun _ => False) wr w4)) (fun i9 _ _ _ => N - (intOf i9).toNat)
          case atStart => exact ⟨0, rfl, by omega, ⟨Chg.refl _ _⟩⟩
          case round =>
            obtain ⟨k, rfl, hk, hwe⟩ := hrel
            have hC8 := Aside0.mk (hC9.out.trans hwe.out (fun _ _ h => h.elim))
            by_cases hlt : k < N
            · obtain ⟨p, hp⟩ : ∃ p, vs[k]? = some p := ⟨vs[k]'(by have := hNA.out; omega), List.getElem?_eq_getElem (by have := hNA.out; omega)⟩
              obtain ⟨hpn, _⟩ := hrA.out k p hp
              obtain rfl := hAA.out (by omega)
              have x0 : wr.cell? ⟨B, k, none⟩ = some (.slice p.1 p.2.1 p.2.2) := cell_keep hC8.out hBA.out (hHA.out k p hp)
              have hG2 := R_chg hG.out hwe.out (fun _ _ _ h => h)
              obtain ⟨gq, gc, ge, _⟩ := Kd.R_form hG2 (by rw [hgl.out]; omega)
              have hgC := R_Cs hG2
              have hgl2 : gs.length = N := hgl.out
              unfold slv at ge
              injection ge with ge1 ge2 ge3
              simp only at ge1 ge2 ge3
              subst ge3
              rw [hgl2] at ge2
              subst ge1
              replace ge2 := ge2.symm
              subst ge2
              obtain ⟨ad, q, e1, hq, y0⟩ := sl_at hgC k hlt
              simp only at e1
              injection e1 with e1
              subst e1
              have hqr := Aside0.mk (row_chgI (hQ.out k p q hp hq).1 hwe.out (fun _ _ h => h))
              have hpr := Aside0.mk (row_chgI (hP.out k p hp) hwe.out (fun _ _ h => h))
              have hk0 : (0 : Int) ≤ k := by omega
              have hk1 : (k : Int) < N := by omega
              have y1 : wr.cell? ⟨gq, k, none⟩ = some (.slice q.1 q.2.1 q.2.2) := by
                rw [addI] at y0
                exact y0
              have hql := hqr.out.len
              rw [mkI_length] at hql
              obtain ⟨gg, e3, _⟩ := hqr.out.head (by rw [mkI_length]; omega)
              obtain ⟨Q, qn, qc⟩ := q
              obtain ⟨P, n, c⟩ := p
              simp only at hql e3 hpn x0 y1
              subst hql e3
              have x0A := Aside0.mk x0
              have y1A := Aside0.mk y1
              clear y0 hp hq hgC hG2 x0
              go_wp2
              go_loopw [10, 11] (fun i10 _ w5 => ∃ i : Nat, i10 = .int .i64 i ∧ i ≤ n + 64 ∧ Aside0 (Chg (fun _ => False) wr w5)) (fun i10 _ _ => n + 64 - (intOf i10).toNat)
              case atStart => exact ⟨0, rfl, by omega, ⟨Chg.refl _ _⟩⟩
              case round =>
                obtain ⟨i, rfl, hi, hwe2⟩ := hrel
                have hwe3 := Aside0.mk (hwe.out.trans hwe2.out (fun _ _ h => h))
                have y2 : wr.cell? ⟨gq, k, none⟩ = some (.slice (some ⟨gg, 0, none⟩) (n + 64) qc) := cell_keep hwe2.out (fun h => h) y1A.out
                have x2 : wr.cell? ⟨B, k, none⟩ = some (.slice P n c) := cell_keep hwe2.out (fun h => h) x0A.out
                by_cases hil : i < n + 64
                · have hi0 : (0 : Int) ≤ i := by omega
                  have hi1 : (i : Int) < (n : Int) + 64 := by omega
                  have hwk : IntKind.i64.wrap (-10 - (k : Int)) = -10 - (k : Int) := by simp [IntKind.wrap, IntKind.bits, IntKind.signed]; omega
                  obtain ⟨z0, z1⟩ := (row_chgI hqr.out hwe2.out (fun _ _ h => h)).cell rfl (mkI_get hil)
                  have y3 := cellQ y2 (.cells #[.int .i64 (-10 - (k : Int)), .int .i64 (i : Int)] 56)
                  have x3 := cellQ x2 (.cells #[.int .i64 (-10 - (k : Int)), .int .i64 (i : Int)] 56)
                  have z2 := cellQ z0 (.cells #[.int .i64 (-10 - (k : Int)), .int .i64 (i : Int)] 56)
                  have z3 := cellQ z1 (.cells #[.int .i64 (-10 - (k : Int)), .int .i64 (i : Int)] 56)
                  by_cases hin : i < n
                  · obtain ⟨pg, e4, _⟩ := hpr.out.head (by rw [mkI_length]; first | omega | (simp only; omega))
                    simp only at e4
                    subst e4
                    obtain ⟨v0, v1⟩ := (row_chgI hpr.out hwe2.out (fun _ _ h => h)).cell rfl (mkI_get hin)
                    have v2 := cellQ v0 (.cells #[.int .i64 (-10 - (k : Int)), .int .i64 (i : Int)] 56)
                    have v3 := cellQ v1 (.cells #[.int .i64 (-10 - (k : Int)), .int .i64 (i : Int)] 56)
                    have hin2 : (i : Int) < (n : Int) := by omega
                    go_wp2
                    go_quiet (fail)
                    go_wp2
                    go_roundw
                    case measure => first | (simp [intOf]; done) | (simp [intOf]; omega)
                    case rel => exact ⟨i + 1, by go_num, by omega, ⟨by repeat (first | exact hwe2.out | apply Chg.drewN | apply Chg.alloc)⟩⟩
                  · have hin2 : ¬ (i : Int) < (n : Int) := by omega
                    go_wp2
                    go_quiet (fail)
                    go_wp2
                    go_roundw
                    case measure => first | (simp [intOf]; done) | (simp [intOf]; omega)
                    case rel => exact ⟨i + 1, by go_num, by omega, ⟨by repeat (first | exact hwe2.out | apply Chg.drewN | apply Chg.alloc)⟩⟩
                · have hi64 : i = n + 64 := by omega
                  subst hi64
                  go_wp2
                  go_roundw
                  case measure => first | (simp [intOf]; done) | (simp [intOf]; omega)
                  case rel => exact ⟨k + 1, by go_num, by omega, hwe3⟩
            · go_wp2
              go_ret
              exact ⟨rfl, hC8.out, fun j p hp => row_chgI (hP.out j p hp) hwe.out (fun _ _ h => h)⟩
end Go.Proofs.Ytdoghjmanogelaa.K

namespace Go.Proofs.Ytdoghjmanogelaa.K
open Go.RowKit Go.Proofs.YtdoghjmanogelaaW.PrintWords Go.Proofs.YtdoghjmanogelaaW.PrintLast Go.Proofs.YtdoghjmanogelaaW.PrintMore
set_option linter.unusedVariables false
set_option linter.unusedSimpArgs false
set_option maxRecDepth 100000
theorem infoSlL : (Try.prog.info? 57).map (fun i => (i.zero, i.size, i.bytes)) = some (some (.slice none 0 0), 1, 24) := by kernel_rfl
def mkL (k n : Nat) : List Int := (List.range n).map (fun i : Nat => (1000003 * ((k : Int) + 1) + (i : Int)))
theorem mkB_lengthL (k n : Nat) : (mkL k n).length = n := by simp [mkL]
theorem mkB_succL (k n : Nat) : mkL k (n + 1) = mkL k n ++ [(1000003 * ((k : Int) + 1) + (n : Int))] := by simp [mkL, List.range_succ]
theorem mkB_getL {k n i : Nat} (h : i < n) : (mkL k n).getD i 0 = (1000003 * ((k : Int) + 1) + (i : Int)) := by
  rw [List.getD_eq_getElem?_getD, mkL, List.getElem?_map, List.getElem?_range h]; rfl
theorem mkB_takeL {k n m : Nat} (h : m ≤ n) : (mkL k n).take m = mkL k m := by
  simp [mkL, ← List.map_take, List.take_range, Nat.min_eq_left h]
abbrev RowL (W : World) (p : Option Addr × Nat × Nat) (xs : List Int) : Prop := Kd.R (Kd.int .i64) 2 W 0 (fun b => some b = (slv p).ownBlock) (slv p) xs
theorem RowL.len {W : World} {p : Option Addr × Nat × Nat} {xs : List Int} (h : RowL W p xs) : p.2.1 = xs.length := by
  obtain ⟨h1, _, _⟩ := Kd.R_reads' h
  exact h1
theorem RowL.head {W : World} {p : Option Addr × Nat × Nat} {xs : List Int} (h : RowL W p xs) (h0 : 0 < xs.length) : ∃ g, p.1 = some ⟨g, 0, none⟩ ∧ (slv p).ownBlock = some g := by
  obtain ⟨g, cap, e, _⟩ := Kd.R_form h h0
  unfold slv at e
  injection e with e1 e2 e3
  exact ⟨g, e1, by unfold slv; rw [e1]; rfl⟩
theorem RowL.cell {W : World} {p : Option Addr × Nat × Nat} {xs : List Int} {g i : Nat} (h : RowL W p xs) (hg : p.1 = some ⟨g, 0, none⟩) (hi : i < p.2.1) : W.cell? ⟨g, i, none⟩ = some (.int .i64 (xs.getD i 0)) := by
  obtain ⟨P, n, c⟩ := p
  subst hg
  obtain ⟨h1, _⟩ := Kd.R_celln 0 h (i : Int) (by omega) (by simpa using hi)
  simpa [rdOf] using h1
theorem row_takeL {W : World} {P : Option Addr} {m n c : Nat} {xs : List Int} (h : RowL W (P, m, c) xs) (hn : n ≤ xs.length) : RowL W (P, n, c) (xs.take n) := by
  cases P with
  | none => exact Kd.R_take (A := none) h hn
  | some a => exact Kd.R_take (A := some a) h hn
theorem row_chgL {S : Nat → Prop} {W W' : World} {r : Option Addr × Nat × Nat} {xs : List Int} (h : RowL W r xs) (hc : Chg S W W') (hS : ∀ b, (slv r).ownBlock = some b → ¬ S b) : RowL W' r xs := R_chg h hc (fun b _ hb hs => hS b hb.symm hs)
theorem row_ltL {W : World} {r : Option Addr × Nat × Nat} {xs : List Int} (h : RowL W r xs) : ∀ b, (slv r).ownBlock = some b → b < W.heap.size := Kd.R_lt h
abbrev RowSL (W : World) (gv : Option Addr × Nat × Nat) (gs : List (Option Addr × Nat × Nat)) : Prop := Kd.R kSl 57 W 0 (fun b => some b = (slv gv).ownBlock) (slv gv) gs
theorem rowS_neL {W : World} {gv r : Option Addr × Nat × Nat} {gs : List (Option Addr × Nat × Nat)} {xs : List Int} (h : RowSL W gv gs) (hr : RowL W r xs) : ∀ b, (slv r).ownBlock = some b → (slv gv).ownBlock ≠ some b := by
  intro b hb hg
  obtain ⟨c1, e1⟩ := Kd.R_typed h b hg
  obtain ⟨c2, e2⟩ := Kd.R_typed hr b hb
  rw [e1] at e2
  injection e2 with e2
  injection e2 with _ e2
  exact absurd e2 (by decide)
structure BesideL (W : World) (vs gs : List (Option Addr × Nat × Nat)) (gv : Option Addr × Nat × Nat) (k : Nat) : Prop where
  gr : RowSL W gv gs
  ps : ∀ (j : Nat) (p : Option Addr × Nat × Nat), vs[j]? = some p → j ≠ k → RowL W p (mkL j p.2.1)
  qs : ∀ (j : Nat) (p q : Option Addr × Nat × Nat), vs[j]? = some p → gs[j]? = some q → RowL W q (mkL j (p.2.1 + 64))
theorem BesideL.chg {S : Nat → Prop} {W W' : World} {vs gs : List (Option Addr × Nat × Nat)} {gv : Option Addr × Nat × Nat} {k : Nat} (h : BesideL W vs gs gv k) (hc : Chg S W W') (hS : ∀ b, S b → NotOf vs gs gv k b) : BesideL W' vs gs gv k :=
  ⟨R_chg h.gr hc (fun b _ hb hs => (hS b hs).gr hb.symm), fun j p hp hj => row_chgL (h.ps j p hp hj) hc (fun b hb hs => (hS b hs).ps j p hp hj hb), fun j p q hp hq => row_chgL (h.qs j p q hp hq) hc (fun b hb hs => (hS b hs).qs j q hq hb)⟩
theorem alt_stepL {W w1 : World} {g : Option Addr × Nat × Nat} {P A1 : Option Addr} {n c i N k n1 c1 : Nat} (hX : RowL W g (mkL k (n + i))) (hAlt : g = (P, n + i, c) ∨ ((∃ b, (slv g).ownBlock = some b ∧ N ≤ b) ∧ RowL W (P, n, c) (mkL k n))) (hNW : N ≤ W.heap.size) (hpl : ∀ b, (slv (P, n, c)).ownBlock = some b → b < N)
    (hc1 : Chg (fun b => (slv g).ownBlock = some b) W w1)
    (halt : (∃ gb cc, slv g = .slice (some ⟨gb, 0, none⟩) (mkL k (n + i)).length cc ∧ Value.slice A1 n1 c1 = .slice (some ⟨gb, 0, none⟩) ((mkL k (n + i)).length + 1) cc) ∨ (Chg (fun _ => False) W w1 ∧ ∃ b, (Value.slice A1 n1 c1).ownBlock = some b ∧ W.heap.size ≤ b)) :
    (A1, n1, c1) = (P, n + (i + 1), c) ∨ ((∃ b, (slv (A1, n1, c1)).ownBlock = some b ∧ N ≤ b) ∧ RowL w1 (P, n, c) (mkL k n)) := by
  rcases halt with ⟨gb, cc, e1, e2⟩ | ⟨hq, b, hb, hW⟩
  · rw [mkB_lengthL] at e1 e2
    injection e2 with f1 f2 f3
    have hog : (slv g).ownBlock = some gb := by rw [e1]; rfl
    rcases hAlt with h | ⟨⟨b, h1, h2⟩, h3⟩
    · subst h
      unfold slv at e1
      injection e1 with g1 g2 g3
      left
      simp only at g1 g3
      rw [f1, f2, f3, g1, g3]
      rfl
    · right
      refine ⟨⟨gb, by unfold slv; simp only; rw [f1]; rfl, ?_⟩, row_chgL h3 hc1 (fun b' hb' h' => ?_)⟩
      · rw [hog] at h1; injection h1 with h1; omega
      · have := hpl b' hb'
        rw [h'] at h1; injection h1 with h1; omega
  · right
    refine ⟨⟨b, hb, by omega⟩, ?_⟩
    rcases hAlt with h | ⟨_, h3⟩
    · subst h
      have := row_takeL (n := n) hX (by rw [mkB_lengthL]; omega)
      rw [mkB_takeL (by omega)] at this
      exact row_chgL this hq (fun _ _ h => h)
    · exact row_chgL h3 hq (fun _ _ h => h)
theorem alt_rowL {W : World} {g : Option Addr × Nat × Nat} {P : Option Addr} {n c i N k : Nat} (hX : RowL W g (mkL k (n + i))) (hAlt : g = (P, n + i, c) ∨ ((∃ b, (slv g).ownBlock = some b ∧ N ≤ b) ∧ RowL W (P, n, c) (mkL k n))) : RowL W (P, n, c) (mkL k n) := by
  rcases hAlt with h | ⟨_, h⟩
  · subst h
    have := row_takeL (n := n) hX (by rw [mkB_lengthL]; omega)
    rwa [mkB_takeL (by omega)] at this
  · exact h
theorem RowL.put {W : World} {p : Option Addr × Nat × Nat} {xs : List Int} {g i : Nat} {x : Int} (h : RowL W p xs) (hg : p.1 = some ⟨g, 0, none⟩) : RowL (W.setCell ⟨g, i, none⟩ (.int .i64 x)) p (xs.set i x) := by
  obtain ⟨P, n, c⟩ := p
  subst hg
  exact Kd.R_putn h (i : Int) x
theorem RowL.cells {W : World} {p : Option Addr × Nat × Nat} {xs : List Int} {g i : Nat} (h : RowL W p xs) (hg : p.1 = some ⟨g, 0, none⟩) (hi : i < p.2.1) : ∃ u, W.cell? ⟨g, i, none⟩ = some u ∧ W.frozen? ⟨g, i, none⟩ = false := by
  obtain ⟨P, n, c⟩ := p
  subst hg
  obtain ⟨h1, h2⟩ := Kd.R_celln 0 h (i : Int) (by omega) (by simpa using hi)
  exact ⟨_, h1, h2⟩
set_option maxHeartbeats 4000000
theorem kit_ApartLongs (w : World) (A : Option Addr) (N cap B : Nat) (vs : List (Option Addr × Nat × Nat)) (hN : vs.length = N) (hNb : N ≤ 1099511627776) (hA : 0 < N → A = some ⟨B, 0, none⟩) (hH : ∀ (k : Nat) (p : Option Addr × Nat × Nat), vs[k]? = some p → w.cell? ⟨B, k, none⟩ = some (slv p)) (hB : ¬ OwnS vs B)
    (hrow : ∀ (k : Nat) (p : Option Addr × Nat × Nat), vs[k]? = some p → p.2.1 ≤ 1099511627776 ∧ ∃ xs, RowL w p xs) (hD : Disj vs) :
    Calls Try.prog 72 #[.slice A N cap] w fun e w' => e = .returned (.bool true) ∧ Chg (OwnS vs) w w' ∧ ∀ (j : Nat) (p : Option Addr × Nat × Nat), vs[j]? = some p → RowL w' p (mkL j p.2.1) := by
  have hHA := Aside0.mk hH
  have hrA := Aside0.mk hrow
  have hDA := Aside0.mk hD
  have hBA := Aside0.mk hB
  have hAA := Aside0.mk hA
  have hNA := Aside0.mk hN
  clear hH hrow hD hB hA hN
  go_enter Try.func72, Try.ntmps72
  go_wp2
  go_loopw [3, 4] (fun ik _ wr => ∃ k : Nat, ik = .int .i64 k ∧ k ≤ N ∧ Aside0 (∀ (j : Nat) (p : Option Addr × Nat × Nat), vs[j]? = some p → ∃ xs, RowL wr p xs ∧ (j < k → xs = mkL j p.2.1)) ∧ Aside0 (Chg (OwnS vs) w wr)) (fun ik _ _ => N - (intOf ik).toNat)
  case atStart => exact ⟨0, rfl, by omega, ⟨fun j p hp => by obtain ⟨_, xs, h⟩ := hrA.out j p hp; exact ⟨xs, h, fun h => by omega⟩⟩, ⟨Chg.refl _ _⟩⟩
  case round =>
    obtain ⟨k, rfl, hk, hR, hCh⟩ := hrel
    by_cases hlt : k < N
    · obtain ⟨p, hp⟩ : ∃ p, vs[k]? = some p := ⟨vs[k]'(by have := hNA.out; omega), List.getElem?_eq_getElem (by have := hNA.out; omega)⟩
      obtain ⟨hpn, _⟩ := hrA.out k p hp
      obtain rfl := hAA.out (by omega)
      have x0 : wr.cell? ⟨B, k, none⟩ = some (.slice p.1 p.2.1 p.2.2) := cell_keep hCh.out hBA.out (hHA.out k p hp)
      have hk0 : (0 : Int) ≤ k := by omega
      have hk1 : (k : Int) < N := by omega
      have hpA := Aside0.mk hp
      obtain ⟨P, n, c⟩ := p
      simp only at hpn x0
      clear hp
      go_wp2
      go_loopw [4] (fun ii w2 => ∃ (i : Nat) (xs : List Int), ii = .int .i64 i ∧ i ≤ n ∧ Aside0 (RowL w2 (P, n, c) xs ∧ xs.take i = mkL k i) ∧ Aside0 (∀ (j : Nat) (p : Option Addr × Nat × Nat), vs[j]? = some p → j ≠ k → ∃ xs, RowL w2 p xs ∧ (j < k → xs = mkL j p.2.1)) ∧ Aside0 (Chg (OwnS vs) w w2)) (fun ii _ => n - (intOf ii).toNat)
      case atStart =>
        obtain ⟨xs, h1, _⟩ := hR.out k _ hpA.out
        exact ⟨0, xs, rfl, by omega, ⟨h1, by simp [mkL]⟩, ⟨fun j p hp _ => hR.out j p hp⟩, hCh⟩
      case round =>
        obtain ⟨i, xs, rfl, hi, hX, hO, hC2⟩ := hrel
        have x1 : wr.cell? ⟨B, k, none⟩ = some (.slice P n c) := cell_keep hC2.out hBA.out (hHA.out k _ hpA.out)
        by_cases hil : i < n
        · have hlen := hX.out.1.len
          simp only at hlen
          obtain ⟨g, e1, e2⟩ := hX.out.1.head (by omega)
          simp only at e1
          subst e1
          obtain ⟨u, c1, c2⟩ := hX.out.1.cells (i := i) rfl hil
          have hi0 : (0 : Int) ≤ i := by omega
          have hi1 : (i : Int) < n := by omega
          have hw8 : IntKind.i64.wrap (1000003 * ((k : Int) + 1) + (i : Int)) = (1000003 * ((k : Int) + 1) + (i : Int)) := by simp [IntKind.wrap, IntKind.bits, IntKind.signed]; omega
          have hX2 : Aside0 (RowL (wr.setCell ⟨g, i, none⟩ (.int .i64 ((1000003 * ((k : Int) + 1) + (i : Int))))) (some ⟨g, 0, none⟩, n, c) (xs.set i ((1000003 * ((k : Int) + 1) + (i : Int)))) ∧ (xs.set i ((1000003 * ((k : Int) + 1) + (i : Int)))).take (i + 1) = mkL k (i + 1)) := ⟨hX.out.1.put rfl, by rw [take_set (by omega), hX.out.2, mkB_succL]⟩
          have hcs : Aside0 (Chg (fun b => b = g) wr (wr.setCell ⟨g, i, none⟩ (.int .i64 ((1000003 * ((k : Int) + 1) + (i : Int)))))) := ⟨(Chg.refl (fun b => b = g) wr).setCell (p := ⟨g, i, none⟩) (fun _ => rfl) _⟩
          have e2A := Aside0.mk e2
          clear e2 hlen
          go_wp2
          go_roundw
          case measure => first | (simp [intOf]; done) | (simp [intOf]; omega)
          case rel =>
            refine ⟨i + 1, _, by go_num, by omega, hX2, ⟨fun j p hp hj => ?_⟩, ⟨hC2.out.trans hcs.out (fun b _ h => ⟨k, _, hpA.out, h ▸ e2A.out⟩)⟩⟩
            obtain ⟨ys, h1, h2⟩ := hO.out j p hp hj
            exact ⟨ys, R_chg h1 hcs.out (fun b _ hb h => by subst h; exact hDA.out k j _ p _ hpA.out hp (Ne.symm hj) e2A.out hb.symm), h2⟩
        · obtain rfl : i = n := by omega
          go_wp2
          go_roundw
          case measure => first | (simp [intOf]; done) | (simp [intOf]; omega)
          case rel =>
            refine ⟨k + 1, by go_num, by omega, ⟨fun j p hp => ?_⟩, hC2⟩
            by_cases hj : j = k
            · subst hj
              rw [hpA.out] at hp
              injection hp with hp
              subst hp
              refine ⟨xs, hX.out.1, fun _ => ?_⟩
              have := hX.out.2
              rw [List.take_of_length_le (by have := hX.out.1.len; simp only at this; omega)] at this
              exact this
            · obtain ⟨ys, h1, h2⟩ := hO.out j p hp hj
              exact ⟨ys, h1, fun h => h2 (by omega)⟩
    · have hkN : N = k := by omega
      subst hkN
      have hR1 : Aside0 (∀ (j : Nat) (p : Option Addr × Nat × Nat), vs[j]? = some p → RowL wr p (mkL j p.2.1)) := ⟨fun j p hp => by
        obtain ⟨xs, h1, h2⟩ := hR.out j p hp
        have hj : j < vs.length := (List.getElem?_eq_some_iff.1 hp).1
        rw [← h2 (by have := hNA.out; omega)]
        exact h1⟩
      clear hR
      go_wp2
      go_loopw [5, 6, 7, 8] (fun v5 i6 _ _ w2 => ∃ (k : Nat) (gs : List (Option Addr × Nat × Nat)) (gv : Option Addr × Nat × Nat), i6 = .int .i64 k ∧ v5 = .slice gv.1 gv.2.1 gv.2.2 ∧ k ≤ N ∧ Aside0 (gs.length = k) ∧ Aside0 (RowSL w2 gv gs) ∧ Aside0 (∀ (j : Nat) (p : Option Addr × Nat × Nat), vs[j]? = some p → RowL w2 p (mkL j p.2.1)) ∧
        Aside0 (∀ (j : Nat) (p q : Option Addr × Nat × Nat), vs[j]? = some p → gs[j]? = some q → RowL w2 q (mkL j (p.2.1 + 64)) ∧ ((slv q).ownBlock = (slv p).ownBlock ∨ ∃ b, (slv q).ownBlock = some b ∧ wr.heap.size ≤ b)) ∧ Aside0 (Disj gs) ∧ Aside0 (∀ b, (slv gv).ownBlock = some b → wr.heap.size ≤ b) ∧ Aside0 (Chg (OwnS vs) wr w2)) (fun _ i6 _ _ _ => N - (intOf i6).toNat)
      case atStart => exact ⟨0, [], (none, 0, 0), rfl, rfl, by omega, ⟨rfl⟩, ⟨Kd.R_nil _ _ _ _ _⟩, hR1, ⟨fun j p q _ hq => by cases hq⟩, ⟨fun j k p q b hp => by cases hp⟩, ⟨fun b hb => by cases hb⟩, ⟨Chg.refl _ _⟩⟩
      case round =>
        obtain ⟨k, gs, gv, rfl, rfl, hk, hgl, hG, hP, hQ, hDg, hGn, hCw⟩ := hrel
        by_cases hlt : k < N
        · obtain ⟨p, hp⟩ : ∃ p, vs[k]? = some p := ⟨vs[k]'(by have := hNA.out; omega), List.getElem?_eq_getElem (by have := hNA.out; omega)⟩
          obtain ⟨hpn, _⟩ := hrA.out k p hp
          obtain rfl := hAA.out (by omega)
          have hCall := Aside0.mk (hCh.out.trans hCw.out (fun _ _ h => h))
          have x0 : wr.cell? ⟨B, k, none⟩ = some (.slice p.1 p.2.1 p.2.2) := cell_keep hCall.out hBA.out (hHA.out k p hp)
          have hk0 : (0 : Int) ≤ k := by omega
          have hk1 : (k : Int) < N := by omega
          have hpA := Aside0.mk hp
          have hbes : Aside0 (BesideL wr vs gs gv k) := ⟨⟨hG.out, fun j q hq _ => hP.out j q hq, fun j q r hq hr => (hQ.out j q r hq hr).1⟩⟩
          have hvs : Aside0 (∀ (j : Nat) (r : Option Addr × Nat × Nat), gs[j]? = some r → ∃ q, vs[j]? = some q ∧ j < k) := ⟨fun j r hr => by
            have hj := (List.getElem?_eq_some_iff.1 hr).1
            have h2 := hgl.out
            have h3 := hNA.out
            exact ⟨vs[j]'(by omega), List.getElem?_eq_getElem (by omega), by omega⟩⟩
          have hnot : Aside0 (∀ b, ((slv p).ownBlock = some b ∨ wr.heap.size ≤ b) → NotOf vs gs gv k b) := ⟨fun b hb => by
            refine ⟨fun h => ?_, fun j q hq hj h => ?_, fun j r hr h => ?_⟩
            · rcases hb with hb | hb
              · exact rowS_neL hG.out (hP.out k p hpA.out) b hb h
              · have := Kd.R_lt hG.out b h; omega
            · rcases hb with hb | hb
              · exact hDA.out k j p q b hpA.out hq (Ne.symm hj) hb h
              · have := row_ltL (hP.out j q hq) b h; omega
            · obtain ⟨q, hq, hjk⟩ := hvs.out j r hr
              obtain ⟨h1, h2⟩ := hQ.out j q r hq hr
              rcases hb with hb | hb
              · rcases h2 with h2 | ⟨b', h2, h3⟩
                · exact hDA.out j k q p b hq hpA.out (by omega) (h2 ▸ h) hb
                · rw [h] at h2; injection h2 with h2; have := row_ltL (hR1.out k p hpA.out) b hb; omega
              · have := row_ltL h1 b h; omega⟩
          have hRp := Aside0.mk (hP.out k p hpA.out)
          obtain ⟨P, n, c⟩ := p
          simp only at hpn x0
          clear hp
          go_wp2
          go_loopw [7, 8] (fun v7 i8 w3 => ∃ (i : Nat) (g : Option Addr × Nat × Nat), i8 = .int .i64 i ∧ v7 = .slice g.1 g.2.1 g.2.2 ∧ i ≤ 64 ∧ Aside0 (RowL w3 g (mkL k (n + i))) ∧ Aside0 (g = (P, n + i, c) ∨ ((∃ b, (slv g).ownBlock = some b ∧ wr.heap.size ≤ b) ∧ RowL w3 (P, n, c) (mkL k n))) ∧ Aside0 (BesideL w3 vs gs gv k) ∧ Aside0 (Chg (fun b => (slv (P, n, c)).ownBlock = some b) wr w3)) (fun _ i8 _ => 64 - (intOf i8).toNat)
          case atStart => exact ⟨0, (P, n, c), rfl, rfl, by omega, hRp, ⟨.inl rfl⟩, hbes, ⟨Chg.refl _ _⟩⟩
          case round =>
            obtain ⟨i, g, rfl, rfl, hi, hX, hAlt, hBe, hC3⟩ := hrel
            have hC4 := Aside0.mk (hCall.out.trans hC3.out (fun b _ h => ⟨k, _, hpA.out, h⟩))
            have x1 : wr.cell? ⟨B, k, none⟩ = some (.slice P n c) := cell_keep hC4.out hBA.out (hHA.out k _ hpA.out)
            by_cases hil : i < 64
            · have hi0 : (0 : Int) ≤ i := by omega
              obtain ⟨x, hx⟩ : ∃ x : Int, x = (1000003 * ((k : Int) + 1) + ((n + i : Nat) : Int)) := ⟨_, rfl⟩
              have hw8 : IntKind.i64.wrap (1000003 * ((k : Int) + 1) + (n : Int) + (i : Int)) = x := by rw [hx]; simp [IntKind.wrap, IntKind.bits, IntKind.signed]; omega
              have hxm : Aside0 (mkL k (n + i) ++ [x] = mkL k (n + (i + 1))) := ⟨by rw [hx, ← Nat.add_assoc, mkB_succL]⟩
              have hlen : Aside0 (((mkL k (n + i)).length + 1) * 8 ≤ 140737488355328) := ⟨by rw [mkB_lengthL]; omega⟩
              have hO1 : Aside0 (Kd.R (Kd.int .i64) 2 wr 0 (New (fun b => (slv g).ownBlock = some b) wr wr) (.slice g.1 g.2.1 g.2.2) (mkL k (n + i))) := ⟨Kd.R_mono hX.out (fun b hb => .inl hb.symm)⟩
              have hRef := Aside0.mk (Chg.refl (fun b => (slv g).ownBlock = some b) wr)
              clear hx
              go_wp2_with (at_builtin; refine app1K (Kd.int .i64) rfl (.tmp 52) (.tmp 64) rfl Try.underlying57 infoI8 rfl (by decide) (by decide) x rfl rfl rfl hO1 hRef hlen ?_; go_must (intro v1 w1 hr1 hc1 halt); go_must (obtain ⟨A1, n1, c1, rfl⟩ := R_sl hr1.out))
              go_roundw
              case measure => first | (simp [intOf]; done) | (simp [intOf]; omega)
              case rel =>
                have hr2 := Kd.R_tight rfl hr1.out
                rw [hxm.out] at hr2
                refine ⟨i + 1, (A1, n1, c1), by go_num, rfl, by omega, ⟨hr2⟩, ⟨alt_stepL hX.out hAlt.out hC3.out.size (row_ltL hRp.out) hc1.out halt.out⟩, ⟨hBe.out.chg hc1.out (fun b hb => hnot.out b (own_alt hAlt.out b hb))⟩, ⟨hC3.out.trans hc1.out (fun b hlt hb => ?_)⟩⟩
                rcases own_alt (n := n) hAlt.out b hb with h | h
                · exact h
                · omega
            · have hi64 : i = 64 := by omega
              subst hi64
              have hlen : Aside0 ((gs.length + 1) * 24 ≤ 140737488355328) := ⟨by rw [hgl.out]; omega⟩
              have hO1 : Aside0 (Kd.R kSl 57 wr 0 (New (fun b => (slv gv).ownBlock = some b) wr wr) (.slice gv.1 gv.2.1 gv.2.2) gs) := ⟨Kd.R_mono hBe.out.gr (fun b hb => .inl hb.symm)⟩
              have hRef := Aside0.mk (Chg.refl (fun b => (slv gv).ownBlock = some b) wr)
              go_wp2_with (at_builtin; refine app1 kSl rfl (.tmp 66) (.tmp 68) rfl Try.underlying130 infoSlL rfl (by decide) (by decide) g rfl rfl (kSl_M _ _ _) hO1 hRef hlen ?_; go_must (intro v5 w5 hr5 hc5); go_must (obtain ⟨A5, n5, c5, rfl⟩ := R_sl hr5.out))
              go_roundw
              case measure => first | (simp [intOf]; done) | (simp [intOf]; omega)
              case rel =>
                have hgr := hBe.out.gr
                have hrp := alt_rowL hX.out hAlt.out
                have keep : ∀ {r : Option Addr × Nat × Nat} {xs : List Int}, RowL wr r xs → RowL w5 r xs := fun h => row_chgL h hc5.out (fun b hb h' => rowS_neL hgr h b hb h')
                refine ⟨k + 1, gs ++ [g], (A5, n5, c5), by go_num, rfl, by omega, ⟨by rw [List.length_append, hgl.out]; rfl⟩, ⟨Kd.R_tight rfl hr5.out⟩, ⟨fun j q hq => ?_⟩, ⟨fun j q r hq hr => ?_⟩, ⟨disj_snoc hDg.out (fun b hb => (hnot.out b (own_alt hAlt.out b hb)).qs)⟩, ⟨fun b hb => ?_⟩, ⟨(hCw.out.trans hC3.out (fun b _ h => ⟨k, _, hpA.out, h⟩)).trans hc5.out (fun b hlt h => ?_)⟩⟩
                · by_cases hj : j = k
                  · subst hj
                    rw [hpA.out] at hq
                    injection hq with hq
                    subst hq
                    exact keep hrp
                  · exact keep (hBe.out.ps j q hq hj)
                · rcases Nat.lt_or_ge j gs.length with hj | hj
                  · rw [List.getElem?_append_left hj] at hr
                    exact ⟨keep (hBe.out.qs j q r hq hr), (hQ.out j q r hq hr).2⟩
                  · rw [List.getElem?_append_right hj] at hr
                    have hj0 : j - gs.length = 0 := by
                      have := (List.getElem?_eq_some_iff.1 hr).1
                      simp at this
                      omega
                    rw [hj0] at hr
                    simp at hr
                    subst hr
                    have hjk : j = k := by have := hgl.out; omega
                    subst hjk
                    rw [hpA.out] at hq
                    injection hq with hq
                    subst hq
                    exact ⟨keep hX.out, alt_own hCw.out.size hAlt.out⟩
                · rcases hr5.out.1 b hb with h | h
                  · exact hGn.out b h
                  · exact Nat.le_trans (Nat.le_trans hCw.out.size hC3.out.size) h.1
                · have := hGn.out b h; omega
        · have hkN : N = k := by omega
          subst hkN
          have hC9 := Aside0.mk (hCh.out.trans hCw.out (fun _ _ h => h))
          go_wp2
          go_loopw [9, 10, 11] (fun i9 _ _ w4 => ∃ k : Nat, i9 = .int .i64 k ∧ k ≤ N ∧ Aside0 (w4 = wr)) (fun i9 _ _ _ => N - (intOf i9).toNat)
          case atStart => exact ⟨0, rfl, by omega, ⟨rfl⟩⟩
          case round =>
            obtain ⟨k, rfl, hk, hwe⟩ := hrel
            obtain rfl := hwe.out
            by_cases hlt : k < N
            · obtain ⟨p, hp⟩ : ∃ p, vs[k]? = some p := ⟨vs[k]'(by have := hNA.out; omega), List.getElem?_eq_getElem (by have := hNA.out; omega)⟩
              obtain ⟨hpn, _⟩ := hrA.out k p hp
              obtain rfl := hAA.out (by omega)
              have x0 : wr.cell? ⟨B, k, none⟩ = some (.slice p.1 p.2.1 p.2.2) := cell_keep hC9.out hBA.out (hHA.out k p hp)
              obtain ⟨gq, gc, ge, _⟩ := Kd.R_form hG.out (by rw [hgl.out]; omega)
              have hgC := R_Cs hG.out
              obtain ⟨ad, q, e1, hq, y0⟩ := sl_at hgC k (by
                obtain ⟨h1, _, _⟩ := Kd.R_reads' hG.out
                rw [h1, hgl.out]; exact hlt)
              unfold slv at ge
              injection ge with ge1 ge2 ge3
              rw [ge1] at e1
              injection e1 with e1
              subst e1
              have hqr := Aside0.mk (hQ.out k p q hp hq).1
              have hpr := Aside0.mk (hP.out k p hp)
              have hk0 : (0 : Int) ≤ k := by omega
              have hk1 : (k : Int) < N := by omega
              have hgl2 : gs.length = N := hgl.out
              rw [hgl2] at ge2
              have y1 : wr.cell? ⟨gq, k, none⟩ = some (.slice q.1 q.2.1 q.2.2) := by
                have hadd : (⟨gq, 0, none⟩ : Addr).add k = ⟨gq, k, none⟩ := by unfold Addr.add; split <;> simp_all
                rw [hadd] at y0
                exact y0
              have hql := hqr.out.len
              rw [mkB_lengthL] at hql
              obtain ⟨gg, e3, _⟩ := hqr.out.head (by rw [mkB_lengthL]; omega)
              obtain ⟨Q, qn, qc⟩ := q
              obtain ⟨P, n, c⟩ := p
              simp only at hql e3 hpn x0 y1
              subst hql e3
              have ge1A := ge1
              clear ge3 y0 hp hq hgC
              go_wp2
              go_loopw [10, 11] (fun i10 _ w5 => ∃ i : Nat, i10 = .int .i64 i ∧ i ≤ n + 64 ∧ Aside0 (w5 = wr)) (fun i10 _ _ => n + 64 - (intOf i10).toNat)
              case atStart => exact ⟨0, rfl, by omega, ⟨rfl⟩⟩
              case round =>
                obtain ⟨i, rfl, hi, hwe⟩ := hrel
                obtain rfl := hwe.out
                by_cases hil : i < n + 64
                · have hi0 : (0 : Int) ≤ i := by omega
                  have hi1 : (i : Int) < (n : Int) + 64 := by omega
                  obtain ⟨x, hx⟩ : ∃ x : Int, x = (1000003 * ((k : Int) + 1) + (i : Int)) := ⟨_, rfl⟩
                  have hw8 : IntKind.i64.wrap (1000003 * ((k : Int) + 1) + (i : Int)) = x := by rw [hx]; simp [IntKind.wrap, IntKind.bits, IntKind.signed]; omega
                  have z0 := hqr.out.cell (i := i) rfl (by simp only; omega)
                  rw [mkB_getL hil, ← hx] at z0
                  by_cases hin : i < n
                  · obtain ⟨pg, e4, _⟩ := hpr.out.head (by rw [mkB_lengthL]; first | omega | (simp only; omega))
                    simp only at e4
                    subst e4
                    have z1 := hpr.out.cell (i := i) rfl hin
                    rw [mkB_getL hin, ← hx] at z1
                    have hin2 : (i : Int) < (n : Int) := by omega
                    clear hx
                    go_wp2
                    go_roundw
                    case measure => first | (simp [intOf]; done) | (simp [intOf]; omega)
                    case rel => exact ⟨i + 1, by go_num, by omega, ⟨by first | rfl | trivial⟩⟩
                  · have hin2 : ¬ (i : Int) < (n : Int) := by omega
                    clear hx
                    go_wp2
                    go_roundw
                    case measure => first | (simp [intOf]; done) | (simp [intOf]; omega)
                    case rel => exact ⟨i + 1, by go_num, by omega, ⟨by first | rfl | trivial⟩⟩
                · have hi64 : i = n + 64 := by omega
                  subst hi64
                  go_wp2
                  go_roundw
                  case measure => first | (simp [intOf]; done) | (simp [intOf]; omega)
                  case rel => first | exact ⟨k + 1, by go_num, by omega, ⟨by first | rfl | trivial⟩⟩ | exact ⟨k + 1, by go_num, by omega⟩
            · have hkN : gv.2.1 = gv.2.1 := rfl
              go_wp2
              go_ret
              exact ⟨rfl, hC9.out, fun j a b c hp => hP.out j (a, b, c) hp⟩
end Go.Proofs.Ytdoghjmanogelaa.K
