import Derived.Test.YtdoghjmanogelaaVy
import Derived.Test.YtdoghjmanogelaaVx
import Derived.IntWalk
import Derived.BigQuiet
namespace Go.Proofs.Ytdoghjmanogelaa.K
open Go.RowKit Go.Proofs.YtdoghjmanogelaaW.PrintWords Go.Proofs.YtdoghjmanogelaaW.PrintLast Go.Proofs.YtdoghjmanogelaaW.PrintMore
set_option linter.unusedVariables false
set_option linter.unusedSimpArgs false
set_option maxRecDepth 100000
section
variable {α : Type} {d : Kd α} {e t : TypeId} {W : World} {p gv : SV} {gs : List SV} {xs : List α}
theorem hdrs (h : RowSv t W gv gs) : ∃ B : Nat, (0 < gs.length → gv.1 = some ⟨B, 0, none⟩ ∧ (slv gv).ownBlock = some B) ∧ ∀ (k : Nat) (p : SV), gs[k]? = some p → W.cell? ⟨B, k, none⟩ = some (slv p) := by
  obtain ⟨A, n, c⟩ := gv
  rcases Nat.eq_zero_or_pos gs.length with h0 | h0
  · exact ⟨0, fun h1 => by omega, fun k p hp => by have := (List.getElem?_eq_some_iff.1 hp).1; omega⟩
  · obtain ⟨B, cc, e1, _⟩ := Kd.R_form h h0
    unfold slv at e1
    injection e1 with e1 e2 e3
    simp only at e1
    subst e1
    refine ⟨B, fun _ => ⟨rfl, rfl⟩, fun k p hp => ?_⟩
    have hk := (List.getElem?_eq_some_iff.1 hp).1
    have hn : n = gs.length := (Kd.R_reads' h).1
    obtain ⟨ad, q, e4, e5, e6⟩ := sl_at (R_Cs h) k (by simp only; omega)
    injection e4 with e4
    subst e4
    rw [hp] at e5
    injection e5 with e5
    subst e5
    rw [add_plain] at e6
    exact e6
theorem typ_ne {b : Nat} (h1 : ∃ cs, W.heap[b]? = some (.cells cs e (0, 0))) (h2 : ∃ cs, W.heap[b]? = some (.cells cs t (0, 0))) (he : e ≠ t) : False := by
  obtain ⟨c1, h1⟩ := h1
  obtain ⟨c2, h2⟩ := h2
  rw [h1] at h2
  injection h2 with h2
  injection h2 with _ h2
  exact he h2
theorem hdrs_not {B : Nat} {ps : List SV} (hB : 0 < gs.length → gv.1 = some ⟨B, 0, none⟩ ∧ (slv gv).ownBlock = some B) (h : RowSv t W gv gs) (h0 : 0 < ps.length → 0 < gs.length) (hr : ∀ (k : Nat) (p : SV), ps[k]? = some p → ∀ b, (slv p).ownBlock = some b → ∃ cs, W.heap[b]? = some (.cells cs e (0, 0))) (he : e ≠ t) : ¬ OwnS ps B := by
  rintro ⟨k, p, hp, hb⟩
  have hk := (List.getElem?_eq_some_iff.1 hp).1
  exact typ_ne (hr k p hp B hb) (Kd.R_typed h B (hB (h0 (by omega))).2) he
end
def slotsV (zs : List (SV × List RF)) : List SV := (zs.map (fun z => z.2.map (·.slots))).flatten
theorem slotsV_app (a b : List (SV × List RF)) : slotsV (a ++ b) = slotsV a ++ slotsV b := by simp [slotsV]
theorem slotsV_one (z : SV × List RF) : slotsV [z] = z.2.map (·.slots) := by simp [slotsV]
theorem slotsV_step {zs : List (SV × List RF)} {k : Nat} {z : SV × List RF} (h : zs[k]? = some z) : slotsV (zs.take (k + 1)) = slotsV (zs.take k) ++ z.2.map (·.slots) := by
  rw [List.take_add_one, h, Option.toList_some, slotsV_app, slotsV_one]
theorem slotsV_le {zs : List (SV × List RF)} {k i : Nat} {z : SV × List RF} (h : zs[k]? = some z) (hi : i ≤ z.2.length) : (slotsV (zs.take k) ++ (z.2.take i).map (·.slots)).length ≤ (slotsV zs).length := by
  have h1 : slotsV zs = slotsV (zs.take (k + 1)) ++ slotsV (zs.drop (k + 1)) := by rw [← slotsV_app, List.take_append_drop]
  rw [h1, slotsV_step h, List.length_append, List.length_append, List.length_append, List.length_map, List.length_map, List.length_take]
  omega
theorem infoVL : (Try.prog.info? 52).map (fun i => (i.zero, i.size, i.bytes)) = some (some (.slice none 0 0), 1, 24) := by kernel_rfl
theorem infoApartFramesL : (Try.prog.info? 49).map (fun i => (i.zero, i.size, i.bytes)) = some (some (.slice none 0 0), 1, 24) := by kernel_rfl
def MFrm (vs : List SV) (W : World) (k i : Nat) (x : RF) : Prop := ∀ p, vs[k]? = some p → if i < p.2.1 then x.fn = (k : Int) ∧ x.pc = (i : Int) else x.fn = -1 - (k : Int)
theorem kpFrm {vs : List SV} : Kp (MFrm vs) 5 := fun _ _ _ _ _ _ _ _ h => h
theorem cellN_RF {W : World} {k m g n c i j : Nat} {M : World → Nat → Nat → RF → Prop} (h : RowM kRF 54 M W k m (some ⟨g, 0, none⟩, n, c)) (hi : i < n) (hj : j < 3) : ∃ u, W.cell? ⟨g, i * 3 + j, none⟩ = some u ∧ W.frozen? ⟨g, i * 3 + j, none⟩ = false := by
  obtain ⟨xs, h1, _⟩ := h
  exact h1.cellN rfl hi hj
theorem cell_FrmA {W : World} {vs : List SV} {p : SV} {k m g n c i : Nat} (h : RowM kRF 54 (MFrm vs) W k m (some ⟨g, 0, none⟩, n, c)) (hp : vs[k]? = some p) (hm : i < m) (hi : i < n) (hin : i < p.2.1) : W.cell? ⟨g, i * 3, none⟩ = some (.int .i64 (k : Int)) ∧ W.cell? ⟨g, i * 3 + 1, none⟩ = some (.int .i64 (i : Int)) := by
  obtain ⟨xs, x, h1, hx, h2⟩ := h.at hm hi
  have h3 := h2 p hp
  rw [if_pos hin] at h3
  obtain ⟨c0, c1, _⟩ := ownRF h1.toC i hi hx
  rw [h3.1] at c0
  rw [h3.2] at c1
  exact ⟨c0, c1⟩
theorem cell_FrmB {W : World} {vs : List SV} {p : SV} {k m g n c i : Nat} (h : RowM kRF 54 (MFrm vs) W k m (some ⟨g, 0, none⟩, n, c)) (hp : vs[k]? = some p) (hm : i < m) (hi : i < n) (hin : p.2.1 ≤ i) : W.cell? ⟨g, i * 3, none⟩ = some (.int .i64 (-1 - (k : Int))) := by
  obtain ⟨xs, x, h1, hx, h2⟩ := h.at hm hi
  have h3 := h2 p hp
  rw [if_neg (by omega)] at h3
  obtain ⟨c0, _, _⟩ := ownRF h1.toC i hi hx
  rw [h3] at c0
  exact c0
theorem RowG.put2F {W : World} {g n c i : Nat} {xs : List RF} (k : Int) (pc : Int) {r : RF} (h : RowG kRF 54 W (some ⟨g, 0, none⟩, n, c) xs) (hr : xs[i]? = some r) : RowG kRF 54 ((W.setCell ⟨g, i * 3, none⟩ (.int .i64 k)).setCell ⟨g, i * 3 + 1, none⟩ (.int .i64 pc)) (some ⟨g, 0, none⟩, n, c) (xs.set i ⟨k, pc, r.slots⟩) := by
  have hl := (List.getElem?_eq_some_iff.1 hr).1
  obtain ⟨f0, p0, s0⟩ := r
  have p0 := Ow.put (j := 0) (m := 3) (u := .int .i64 k) (r' := ⟨k, p0, s0⟩) kRF_K kRF_M rfl h.ow hr rfl (by decide)
  have p1 := Ow.put (j := 1) (m := 3) (u := .int .i64 pc) (r' := ⟨k, pc, s0⟩) kRF_K kRF_M rfl p0 (List.getElem?_set_self hl) rfl (by decide)
  rw [List.set_set] at p1
  exact p1.1
theorem RowM.put2F {W : World} {vs : List SV} {k g n c i : Nat} (h : RowM kRF 54 (MFrm vs) W k i (some ⟨g, 0, none⟩, n, c)) (hi : i < n) (hp : vs[k]? = some (some ⟨g, 0, none⟩, n, c)) : RowM kRF 54 (MFrm vs) ((W.setCell ⟨g, i * 3, none⟩ (.int .i64 (k : Int))).setCell ⟨g, i * 3 + 1, none⟩ (.int .i64 (i : Int))) k (i + 1) (some ⟨g, 0, none⟩, n, c) := by
  obtain ⟨ys, h1, h2⟩ := h
  have hl : n = ys.length := h1.len
  have hr := List.getElem?_eq_getElem (l := ys) (i := i) (by omega)
  refine ⟨_, h1.put2F k i hr, fun j y hj hy => ?_⟩
  by_cases hji : j = i
  · subst hji
    rw [List.getElem?_set_self (by omega)] at hy
    injection hy with hy
    subst hy
    intro p hp2
    rw [hp] at hp2
    injection hp2 with hp2
    subst hp2
    rw [if_pos hi]
    exact ⟨rfl, rfl⟩
  · rw [List.getElem?_set_ne (Ne.symm hji)] at hy
    exact h2 j y (by omega) hy
set_option maxHeartbeats 4000000
theorem kit_ApartFrames (w0 : World) (A : Option Addr) (N cap B : Nat) (zs : List (SV × List RF)) (hN : zs.length = N) (hNb : N ≤ 1099511627776) (hA : 0 < N → A = some ⟨B, 0, none⟩) (hH : ∀ (k : Nat) (p : SV), (zs.map (·.1))[k]? = some p → w0.cell? ⟨B, k, none⟩ = some (slv p)) (hB : ¬ OwnS (zs.map (·.1)) B) (hB2 : ¬ OwnS (slotsV zs) B)
    (hrow : ∀ (k : Nat) (z : SV × List RF), zs[k]? = some z → z.1.2.1 ≤ 1099511627776 ∧ RowG kRF 54 w0 z.1 z.2) (hslot : ∀ (j : Nat) (p : SV), (slotsV zs)[j]? = some p → p.2.1 ≤ 8796093022000 ∧ ∃ xs, RowG kQV 56 w0 p xs) (hD : Disj (zs.map (·.1))) (hDs : Disj (slotsV zs)) (hSl : (slotsV zs).length ≤ 1099511627776) :
    Calls Try.prog 29 #[.slice A N cap] w0 fun e w' => e = .returned (.bool true) ∧ Chg (fun b => OwnS (zs.map (·.1)) b ∨ OwnS (slotsV zs) b) w0 w' := by
  have hH0 := Aside0.mk hH
  have hr0 := Aside0.mk hrow
  have hs0 := Aside0.mk hslot
  have hD0 := Aside0.mk hD
  have hDsA := Aside0.mk hDs
  have hSlA := Aside0.mk hSl
  have hB0 := Aside0.mk hB
  have hB2A := Aside0.mk hB2
  have hAA := Aside0.mk hA
  have hN0 := Aside0.mk hN
  clear hH hrow hD hB hB2 hA hN hslot hDs hSl
  go_enter Try.func29, Try.ntmps29
  go_wp2
  go_loopw [3, 4, 5] (fun v3 i4 _ wr => ∃ k : Nat, i4 = .int .i64 k ∧ k ≤ N ∧ Aside0 (Kd.R kSl 52 wr 0 (New (fun _ => False) w0 wr) v3 (slotsV (zs.take k))) ∧ Aside0 (Chg (fun _ => False) w0 wr)) (fun _ i4 _ _ => N - (intOf i4).toNat)
  case atStart => exact ⟨0, rfl, by omega, ⟨by rw [List.take_zero]; exact Kd.R_nil _ _ _ _ _⟩, ⟨Chg.refl _ _⟩⟩
  case round =>
    obtain ⟨k, rfl, hk, hR, hCh⟩ := hrel
    by_cases hlt : k < N
    · obtain ⟨z, hz⟩ : ∃ z, zs[k]? = some z := ⟨zs[k]'(by have := hN0.out; omega), List.getElem?_eq_getElem (by have := hN0.out; omega)⟩
      obtain ⟨hzn, hzr⟩ := hr0.out k z hz
      obtain rfl := hAA.out (by omega)
      have x0 : wr.cell? ⟨B, k, none⟩ = some (.slice z.1.1 z.1.2.1 z.1.2.2) := cell_keep hCh.out (fun h => h) (hH0.out k z.1 (by rw [List.getElem?_map, hz]; rfl))
      have hk0 : (0 : Int) ≤ k := by omega
      have hk1 : (k : Int) < N := by omega
      have hzA := Aside0.mk hz
      have hzrA := Aside0.mk hzr
      obtain ⟨⟨P, n, c⟩, fs⟩ := z
      simp only at hzn x0
      clear hz hzr
      go_wp2
      go_loopw [3, 5] (fun v3 i5 w2 => ∃ i : Nat, i5 = .int .i64 i ∧ i ≤ n ∧ Aside0 (Kd.R kSl 52 w2 0 (New (fun _ => False) w0 w2) v3 (slotsV (zs.take k) ++ (fs.take i).map (·.slots))) ∧ Aside0 (Chg (fun _ => False) w0 w2)) (fun _ i5 _ => n - (intOf i5).toNat)
      case atStart => exact ⟨0, rfl, by omega, ⟨by simpa using hR.out⟩, hCh⟩
      case round =>
        obtain ⟨i, rfl, hi, hR2, hC2⟩ := hrel
        have x1 : wr.cell? ⟨B, k, none⟩ = some (.slice P n c) := cell_keep hC2.out (fun h => h) (hH0.out k (P, n, c) (by rw [List.getElem?_map, hzA.out]; rfl))
        have hlen : Aside0 (n = fs.length) := ⟨hzrA.out.len⟩
        by_cases hil : i < n
        · have hi0 : (0 : Int) ≤ i := by omega
          have hi1 : (i : Int) < n := by omega
          have hzw := hzrA.out.chg hC2.out (fun _ _ h => h)
          obtain ⟨g, e1, _⟩ := hzw.head (by have := hlen.out; omega)
          simp only at e1
          subst e1
          obtain ⟨f, hf⟩ : ∃ f, fs[i]? = some f := ⟨_, List.getElem?_eq_getElem (by have := hlen.out; omega)⟩
          obtain ⟨_, _, z2⟩ := ownRF hzw.toC i hil hf
          have hfA : Aside0 ((fs.take (i + 1)).map (·.slots) = (fs.take i).map (·.slots) ++ [f.slots]) := ⟨by rw [List.take_add_one, hf]; simp⟩
          have hl : Aside0 (((slotsV (zs.take k) ++ (fs.take i).map (·.slots)).length + 1) * 24 ≤ 140737488355328) := ⟨by
            have h1 := slotsV_le hzA.out (i := i) (by have := hlen.out; simp only; omega)
            have h2 := hSlA.out
            simp only at h1
            omega⟩
          clear hzw hf
          go_wp2_with (at_builtin; refine app1 kSl rfl (.tmp 30) (.tmp 39) rfl Try.underlying41 infoVL rfl (by decide) (by decide) f.slots rfl rfl (kSl_M _ _ _) hR2 hC2 hl ?_; go_must (intro v1 w1 hr1 hc1))
          go_roundw
          case measure => first | (simp [intOf]; done) | (simp [intOf]; omega)
          case rel => exact ⟨i + 1, by go_num, by omega, ⟨by rw [hfA.out, ← List.append_assoc]; exact hr1.out⟩, hc1⟩
        · obtain rfl : i = n := by omega
          have hE : Aside0 (slotsV (zs.take (k + 1)) = slotsV (zs.take k) ++ (fs.take i).map (·.slots)) := ⟨by rw [slotsV_step hzA.out, List.take_of_length_le (l := fs) (by have := hlen.out; omega)]⟩
          go_wp2
          go_roundw
          case measure => first | (simp [intOf]; done) | (simp [intOf]; omega)
          case rel => exact ⟨k + 1, by go_num, by omega, ⟨by rw [hE.out]; exact hR2.out⟩, hC2⟩
    · have hkN : N = k := by omega
      subst hkN
      have hR9 := hR.out
      rw [List.take_of_length_le (by have := hN0.out; omega)] at hR9
      obtain ⟨sA, sn, sc, rfl⟩ := R_sl hR9
      have hRs : RowSv 52 wr (sA, sn, sc) (slotsV zs) := Kd.R_tight rfl hR9
      obtain ⟨SB, h1, h2⟩ := hdrs hRs
      have hsn : Aside0 ((slotsV zs).length = sn) := ⟨(Kd.R_reads' hR9).1.symm⟩
      have hsr : ∀ (j : Nat) (p : SV), (slotsV zs)[j]? = some p → p.2.1 ≤ 8796093022000 ∧ ∃ xs, RowG kQV 56 wr p xs := fun j p hp => by
        obtain ⟨h3, xs, h4⟩ := hs0.out j p hp
        exact ⟨h3, xs, h4.chg hCh.out (fun _ _ h => h)⟩
      have hst : ∀ (j : Nat) (p : SV), (slotsV zs)[j]? = some p → ∀ b, (slv p).ownBlock = some b → ∃ cs, wr.heap[b]? = some (.cells cs 56 (0, 0)) := fun j p hp => by
        obtain ⟨_, xs, h4⟩ := hsr j p hp
        exact Kd.R_typed h4
      have hstA := Aside0.mk hst
      have hcall := Aside0.mk (kit_ApartValues wr sA sn sc SB (slotsV zs) hsn.out (by have := hSlA.out; have := hsn.out; omega) (fun h => (h1 (by have := hsn.out; omega)).1) h2 (hdrs_not h1 hRs (fun h => h) hst (by decide)) hsr hDsA.out)
      clear hR hR9 hRs h1 h2 hsr hst
      go_wp2_with (go_at_call 28; go_must (refine hcall.out.mono ?_); go_must (rintro e w ⟨rfl, hcV, _⟩); go_must (replace hcV := Aside0.mk hcV))
      obtain ⟨vs, hvs⟩ : ∃ vs, vs = zs.map (·.1) := ⟨_, rfl⟩
      have hvsA := Aside0.mk hvs
      have hCv : Aside0 (Chg (fun b => OwnS vs b ∨ OwnS (slotsV zs) b) w0 w) := ⟨(hCh.out.mono (fun _ _ h => h.elim)).trans hcV.out (fun _ _ h => .inr h)⟩
      have hHA : Aside0 (∀ (k : Nat) (p : SV), vs[k]? = some p → w.cell? ⟨B, k, none⟩ = some (slv p)) := ⟨fun k p hp => by rw [hvs] at hp; exact cell_keep hcV.out hB2A.out (cell_keep hCh.out (fun h => h) (hH0.out k p hp))⟩
      have hrA : Aside0 (∀ (k : Nat) (p : SV), vs[k]? = some p → p.2.1 ≤ 1099511627776 ∧ ∃ xs, RowG kRF 54 w p xs) := ⟨fun k p hp => by
        rw [hvs, List.getElem?_map] at hp
        obtain ⟨z, hz, rfl⟩ := Option.map_eq_some_iff.1 hp
        obtain ⟨h3, h4⟩ := hr0.out k z hz
        have h5 := h4.chg hCh.out (fun _ _ h => h)
        exact ⟨h3, _, h5.chg hcV.out (fun b hb ⟨j, p, hp, hb2⟩ => typ_ne (Kd.R_typed h5 b hb) (hstA.out j p hp b hb2) (by decide))⟩⟩
      have hDA : Aside0 (Disj vs) := ⟨by rw [hvs]; exact hD0.out⟩
      have hBA : Aside0 (¬ OwnS vs B) := ⟨by rw [hvs]; exact hB0.out⟩
      have hNA : Aside0 (vs.length = N) := ⟨by rw [hvs, List.length_map]; exact hN0.out⟩
      clear hvs
      go_loopw [6, 7] (fun ik _ wr => ∃ k : Nat, ik = .int .i64 k ∧ k ≤ N ∧ Aside0 (RowsM kRF 54 (MFrm vs) wr vs k) ∧ Aside0 (Chg (OwnS vs) w wr)) (fun ik _ _ => N - (intOf ik).toNat)
      case atStart => exact ⟨0, rfl, by omega, ⟨fun j p hp => by obtain ⟨_, xs, h⟩ := hrA.out j p hp; exact RowM.zero h⟩, ⟨Chg.refl _ _⟩⟩
      case round =>
        obtain ⟨k, rfl, hk, hR, hCh⟩ := hrel
        by_cases hlt : k < N
        · skip
          obtain ⟨p, hp⟩ : ∃ p, vs[k]? = some p := ⟨vs[k]'(by have := hNA.out; omega), List.getElem?_eq_getElem (by have := hNA.out; omega)⟩
          obtain ⟨hpn, _⟩ := hrA.out k p hp
          obtain rfl := hAA.out (by omega)
          have x0 : wr.cell? ⟨B, k, none⟩ = some (.slice p.1 p.2.1 p.2.2) := cell_keep hCh.out hBA.out (hHA.out k p hp)
          have hk0 : (0 : Int) ≤ k := by omega
          have hk1 : (k : Int) < N := by omega
          have hpA := Aside0.mk hp
          obtain ⟨P, n, c⟩ := p
          simp only at hpn x0
          clear hp
          go_wp2
          go_loopw [7] (fun ii w2 => ∃ i : Nat, ii = .int .i64 i ∧ i ≤ n ∧ Aside0 (RowM kRF 54 (MFrm vs) w2 k i (P, n, c)) ∧ Aside0 (∀ (j : Nat) (p : SV), vs[j]? = some p → j ≠ k → RowM kRF 54 (MFrm vs) w2 j (if j < k then p.2.1 else 0) p) ∧ Aside0 (Chg (OwnS vs) w w2)) (fun ii _ => n - (intOf ii).toNat)
          case atStart => exact ⟨0, rfl, by omega, ⟨(hR.out k _ hpA.out).mono (Nat.zero_le _)⟩, ⟨fun j p hp _ => hR.out j p hp⟩, hCh⟩
          case round =>
            obtain ⟨i, rfl, hi, hX, hO, hC2⟩ := hrel
            have x1 : wr.cell? ⟨B, k, none⟩ = some (.slice P n c) := cell_keep hC2.out hBA.out (hHA.out k _ hpA.out)
            by_cases hil : i < n
            · have hX0 := hX.out
              obtain ⟨xs, h1, h2⟩ := hX0
              have hlen := h1.len
              simp only at hlen
              obtain ⟨g, e1, e2⟩ := h1.head (by omega)
              simp only at e1
              subst e1
              clear h1 h2
              have hi0 : (0 : Int) ≤ i := by omega
              have hi1 : (i : Int) < n := by omega
              have e2A := Aside0.mk e2
              clear e2 hlen
              have hz3 : Aside0 (Chg (fun _ => False) wr wr) := ⟨Chg.refl _ _⟩
              obtain ⟨u0, c0, f0⟩ := cellN_RF hX.out (by simpa using hil) (show 0 < 3 by decide)
              obtain ⟨u1, c1, f1⟩ := cellN_RF hX.out (by simpa using hil) (show 1 < 3 by decide)
              simp only [Nat.add_zero] at c0 f0
              have hC3 := Aside0.mk (hC2.out.trans hz3.out (fun _ _ h => h.elim))
              have hX1 : Aside0 (RowM kRF 54 (MFrm vs) wr k i (some ⟨g, 0, none⟩, n, c)) := ⟨hX.out.chg kpFrm hz3.out (fun _ _ h => h) (fun _ _ h => h.elim)⟩
              have hTg : Aside0 (∀ b cs, b = g → wr.heap[b]? ≠ some (.cells cs 5 (0, 0))) := ⟨fun b cs hb => by subst hb; exact hX1.out.not (by decide) _ cs e2A.out⟩
              have hcs : Aside0 (Chg (fun b => b = g) wr ((wr.setCell ⟨g, i * 3, none⟩ (.int .i64 (k : Int))).setCell ⟨g, i * 3 + 1, none⟩ (.int .i64 (i : Int)))) := ⟨((Chg.refl (fun b => b = g) wr).setCell (p := ⟨g, i * 3, none⟩) (fun _ => rfl) _).setCell (p := ⟨g, i * 3 + 1, none⟩) (fun _ => rfl) _⟩
              have hX2 : Aside0 (RowM kRF 54 (MFrm vs) ((wr.setCell ⟨g, i * 3, none⟩ (.int .i64 (k : Int))).setCell ⟨g, i * 3 + 1, none⟩ (.int .i64 (i : Int))) k (i + 1) (some ⟨g, 0, none⟩, n, c)) := ⟨RowM.put2F hX1.out hil hpA.out⟩
              have x2 : (wr.setCell ⟨g, i * 3, none⟩ (.int .i64 (k : Int))).cell? ⟨B, k, none⟩ = some (.slice (some ⟨g, 0, none⟩) n c) := cell_keep ((Chg.refl (fun b => b = g) wr).setCell (p := ⟨g, i * 3, none⟩) (fun _ => rfl) _) (fun h => hBA.out ⟨k, _, hpA.out, (show B = g from h) ▸ e2A.out⟩) x1
              go_upto_region 18 with (fail)
              (try simp only [Act.put, List.setIfInBounds_toArray, List.set_cons_zero, List.set_cons_succ])
              go_wp2
              go_roundw
              case measure => first | (simp [intOf]; done) | (simp [intOf]; omega)
              case rel =>
                refine ⟨i + 1, by go_num, by omega, hX2, ⟨fun j p hp hj => ?_⟩, ⟨hC3.out.trans hcs.out (fun b _ h => ⟨k, _, hpA.out, h ▸ e2A.out⟩)⟩⟩
                exact ((hO.out j p hp hj).chg kpFrm hz3.out (fun _ _ h => h) (fun _ _ h => h.elim)).chg kpFrm hcs.out (fun b hb h => by subst h; exact hDA.out k j _ p _ hpA.out hp (Ne.symm hj) e2A.out hb) hTg.out
            · obtain rfl : i = n := by omega
              go_wp2
              go_roundw
              case measure => first | (simp [intOf]; done) | (simp [intOf]; omega)
              case rel =>
                refine ⟨k + 1, by go_num, by omega, ⟨fun j p hp => ?_⟩, hC2⟩
                by_cases hj : j = k
                · subst hj
                  rw [hpA.out] at hp
                  injection hp with hp
                  subst hp
                  rw [if_pos (by omega)]
                  exact hX.out
                · have := hO.out j p hp hj
                  by_cases hjk : j < k
                  · rw [if_pos hjk] at this
                    rw [if_pos (by omega)]
                    exact this
                  · rw [if_neg hjk] at this
                    rw [if_neg (by omega)]
                    exact this
        · have hkN : N = k := by omega
          subst hkN
          have hR1 : Aside0 (∀ (j : Nat) (p : SV), vs[j]? = some p → RowM kRF 54 (MFrm vs) wr j p.2.1 p) := ⟨fun j p hp => by
            have h1 := hR.out j p hp
            have hj : j < vs.length := (List.getElem?_eq_some_iff.1 hp).1
            rwa [if_pos (by have := hNA.out; omega)] at h1⟩
          clear hR
          go_wp2
          go_loopw [8, 9, 10, 11] (fun v5 i6 _ _ w2 => ∃ (k : Nat) (gs : List SV) (gv : SV), i6 = .int .i64 k ∧ v5 = .slice gv.1 gv.2.1 gv.2.2 ∧ k ≤ N ∧ Aside0 (gs.length = k) ∧ Aside0 (RowSv 49 w2 gv gs) ∧ Aside0 (∀ (j : Nat) (p : SV), vs[j]? = some p → RowM kRF 54 (MFrm vs) w2 j p.2.1 p) ∧
            Aside0 (∀ (j : Nat) (p q : SV), vs[j]? = some p → gs[j]? = some q → (RowM kRF 54 (MFrm vs) w2 j (p.2.1 + 64) q ∧ q.2.1 = p.2.1 + 64) ∧ ((slv q).ownBlock = (slv p).ownBlock ∨ ∃ b, (slv q).ownBlock = some b ∧ wr.heap.size ≤ b)) ∧ Aside0 (Disj gs) ∧ Aside0 (∀ b, (slv gv).ownBlock = some b → wr.heap.size ≤ b) ∧ Aside0 (Chg (OwnS vs) wr w2)) (fun _ i6 _ _ _ => N - (intOf i6).toNat)
          case atStart => exact ⟨0, [], (none, 0, 0), rfl, rfl, by omega, ⟨rfl⟩, ⟨Kd.R_nil _ _ _ _ _⟩, hR1, ⟨fun j p q _ hq => by cases hq⟩, ⟨fun j k p q b hp => by cases hp⟩, ⟨fun b hb => by cases hb⟩, ⟨Chg.refl _ _⟩⟩
          case round =>
            obtain ⟨k, gs, gv, rfl, rfl, hk, hgl, hG, hP, hQ, hDg, hGn, hCw⟩ := hrel
            by_cases hlt : k < N
            · have hCall := Aside0.mk (hCh.out.trans hCw.out (fun _ _ h => h))
              obtain ⟨p, hp⟩ : ∃ p, vs[k]? = some p := ⟨vs[k]'(by have := hNA.out; omega), List.getElem?_eq_getElem (by have := hNA.out; omega)⟩
              obtain ⟨hpn, _⟩ := hrA.out k p hp
              obtain rfl := hAA.out (by omega)
              have x0 : wr.cell? ⟨B, k, none⟩ = some (.slice p.1 p.2.1 p.2.2) := cell_keep hCall.out hBA.out (hHA.out k p hp)
              have hk0 : (0 : Int) ≤ k := by omega
              have hk1 : (k : Int) < N := by omega
              have hpA := Aside0.mk hp
              have hbes : Aside0 (BesideM kRF 54 49 (MFrm vs) wr vs gs gv k) := ⟨⟨hG.out, fun j q hq _ => hP.out j q hq, fun j q r hq hr => (hQ.out j q r hq hr).1⟩⟩
              have hvs : Aside0 (∀ (j : Nat) (r : SV), gs[j]? = some r → ∃ q, vs[j]? = some q ∧ j < k) := ⟨fun j r hr => by
                have hj := (List.getElem?_eq_some_iff.1 hr).1
                have h2 := hgl.out
                have h3 := hNA.out
                exact ⟨vs[j]'(by omega), List.getElem?_eq_getElem (by omega), by omega⟩⟩
              have hnot : Aside0 (∀ b, ((slv p).ownBlock = some b ∨ wr.heap.size ≤ b) → NotOf vs gs gv k b) := ⟨fun b hb => by
                refine ⟨fun h => ?_, fun j q hq hj h => ?_, fun j r hr h => ?_⟩
                · rcases hb with hb | hb
                  · exact rowSv_ne hG.out (hP.out k p hpA.out) (by decide) b hb h
                  · have := Kd.R_lt hG.out b h; omega
                · rcases hb with hb | hb
                  · exact hDA.out k j p q b hpA.out hq (Ne.symm hj) hb h
                  · have := (hP.out j q hq).lt b h; omega
                · obtain ⟨q, hq, hjk⟩ := hvs.out j r hr
                  obtain ⟨⟨h1, _⟩, h2⟩ := hQ.out j q r hq hr
                  rcases hb with hb | hb
                  · rcases h2 with h2 | ⟨b', h2, h3⟩
                    · exact hDA.out j k q p b hq hpA.out (by omega) (h2 ▸ h) hb
                    · rw [h] at h2; injection h2 with h2; have := (hR1.out k p hpA.out).lt b hb; omega
                  · have := h1.lt b h; omega⟩
              have hRp := Aside0.mk (hP.out k p hpA.out)
              obtain ⟨P, n, c⟩ := p
              simp only at hpn x0
              clear hp
              go_wp2
              go_loopw [10, 11] (fun v7 i8 w3 => ∃ (i : Nat) (g : SV), i8 = .int .i64 i ∧ v7 = .slice g.1 g.2.1 g.2.2 ∧ i ≤ 64 ∧ Aside0 (g.2.1 = n + i) ∧ Aside0 (RowM kRF 54 (MFrm vs) w3 k (n + i) g) ∧ Aside0 (AltM kRF 54 (MFrm vs) w3 k wr.heap.size n i c P g) ∧ Aside0 (BesideM kRF 54 49 (MFrm vs) w3 vs gs gv k) ∧ Aside0 (Chg (fun b => (slv (P, n, c)).ownBlock = some b) wr w3)) (fun _ i8 _ => 64 - (intOf i8).toNat)
              case atStart => exact ⟨0, (P, n, c), rfl, rfl, by omega, ⟨rfl⟩, hRp, ⟨.inl rfl⟩, hbes, ⟨Chg.refl _ _⟩⟩
              case round =>
                obtain ⟨i, g, rfl, rfl, hi, hgn, hX, hAlt, hBe, hC3⟩ := hrel
                have hC4 := Aside0.mk (hCall.out.trans hC3.out (fun b _ h => ⟨k, _, hpA.out, h⟩))
                have x1 : wr.cell? ⟨B, k, none⟩ = some (.slice P n c) := cell_keep hC4.out hBA.out (hHA.out k _ hpA.out)
                by_cases hil : i < 64
                · have hi0 : (0 : Int) ≤ i := by omega
                  have hX0 := hX.out
                  obtain ⟨xs, h1, h2⟩ := hX0
                  have hxl : Aside0 (xs.length = n + i) := ⟨by rw [← h1.len]; exact hgn.out⟩
                  have h1A := Aside0.mk h1
                  have h2A := Aside0.mk h2
                  clear h1 h2
                  have hlen : Aside0 ((xs.length + 1) * 40 ≤ 140737488355328) := ⟨by rw [hxl.out]; omega⟩
                  have hpn2 := Aside0.mk hpn
                  have hz5 : Aside0 (Chg (fun _ => False) wr wr) := ⟨Chg.refl _ _⟩
                  have hwk : IntKind.i64.wrap (-1 - (k : Int)) = -1 - (k : Int) := by simp [IntKind.wrap, IntKind.bits, IntKind.signed]; omega
                  have hO1 : Aside0 (Kd.R kRF 54 wr 0 (New (fun b => (slv g).ownBlock = some b) wr wr) (.slice g.1 g.2.1 g.2.2) xs) := ⟨Kd.R_mono h1A.out (fun b hb => .inl hb.symm)⟩
                  have hRef := Aside0.mk (Chg.refl (fun b => (slv g).ownBlock = some b) wr)
                  go_wp2_with (at_builtin; refine app1K kRF rfl (.tmp 89) (.tmp 93) rfl Try.underlying49 infoRF rfl (by decide) (by decide) (⟨-1 - (k : Int), 0, (none, 0, 0)⟩ : RF) rfl rfl (kRF_M _ _ _ _) hO1 hRef hlen ?_; go_must (intro v1 w1 hr1 hc1 halt); go_must (obtain ⟨A1, n1, c1, rfl⟩ := R_sl hr1.out))
                  go_roundw
                  case measure => first | (simp [intOf]; done) | (simp [intOf]; omega)
                  case rel =>
                    have hr2 := Kd.R_tight rfl hr1.out
                    have hz51 : Chg (fun b => (slv g).ownBlock = some b) wr w1 := (hz5.out.mono (fun _ _ h => h.elim)).trans hc1.out (fun _ _ h => h)
                    have hcw := hC3.out.trans hz51 (fun b hlt h => (hAlt.out.own b h).elim id (fun h => absurd hlt (by have := hC3.out.size; omega)))
                    have hTw := hX.out.not (T := 5) (by decide)
                    have hXz := hX.out.chg kpFrm hz5.out (fun _ _ h => h) (fun _ _ h => h.elim)
                    have hTz := hXz.not (T := 5) (by decide)
                    have hAz := hAlt.out.chg kpFrm hz5.out (fun _ _ h => h.elim) (fun _ _ h => h)
                    have hBz := hBe.out.chg kpFrm hz5.out (fun _ _ h => h.elim) (fun _ h => h.elim)
                    refine ⟨i + 1, (A1, n1, c1), by go_num, rfl, by omega, ⟨?_⟩, ⟨?_⟩, ⟨?_⟩, ⟨?_⟩, ⟨?_⟩⟩
                    · have := (Kd.R_reads' hr1.out).1
                      simp only [List.length_append, List.length_singleton, hxl.out] at this
                      exact this
                    · refine ⟨_, hr2, fun j y hj hy => ?_⟩
                      rcases Nat.lt_or_ge j (n + i) with hj2 | hj2
                      · rw [List.getElem?_append_left (by rw [hxl.out]; exact hj2)] at hy
                        exact kpFrm _ _ _ _ _ _ hz51 hTw (h2A.out j y hj2 hy)
                      · rw [List.getElem?_append_right (by rw [hxl.out]; exact hj2)] at hy
                        have hj0 : j = n + i := by omega
                        subst hj0
                        rw [hxl.out, Nat.sub_self] at hy
                        injection hy with hy
                        subst hy
                        exact fun p hp => by rw [hpA.out] at hp; injection hp with hp; subst hp; rw [if_neg (by simp only; omega)]
                    · exact hAz.step kpFrm hXz hgn.out (by decide) (Nat.le_trans hC3.out.size hz5.out.size) hRp.out.lt hc1.out (by have h0 := halt.out; rw [hxl.out] at h0; exact h0)
                    · exact hBz.chg kpFrm hc1.out hTz (fun b hb => hnot.out b (hAlt.out.own b hb))
                    · exact hcw
                · have hi64 : i = 64 := by omega
                  subst hi64
                  have hlen : Aside0 ((gs.length + 1) * 24 ≤ 140737488355328) := ⟨by rw [hgl.out]; omega⟩
                  have hO1 : Aside0 (Kd.R kSl 49 wr 0 (New (fun b => (slv gv).ownBlock = some b) wr wr) (.slice gv.1 gv.2.1 gv.2.2) gs) := ⟨Kd.R_mono hBe.out.gr (fun b hb => .inl hb.symm)⟩
                  have hRef := Aside0.mk (Chg.refl (fun b => (slv gv).ownBlock = some b) wr)
                  go_wp2_with (at_builtin; refine app1 kSl rfl (.tmp 95) (.tmp 97) rfl Try.underlying63 infoApartFramesL rfl (by decide) (by decide) g rfl rfl (kSl_M _ _ _) hO1 hRef hlen ?_; go_must (intro v5 w5 hr5 hc5); go_must (obtain ⟨A5, n5, c5, rfl⟩ := R_sl hr5.out))
                  go_roundw
                  case measure => first | (simp [intOf]; done) | (simp [intOf]; omega)
                  case rel =>
                    have hgr := hBe.out.gr
                    have hrp := hAlt.out.row hX.out hgn.out
                    have hTv : ∀ b cs, (slv gv).ownBlock = some b → wr.heap[b]? ≠ some (.cells cs 5 (0, 0)) := fun b cs hb hc => by
                      obtain ⟨cs', h2⟩ := Kd.R_typed hgr b hb
                      rw [h2] at hc
                      injection hc with hc
                      injection hc with _ hc
                      exact absurd hc (by decide)
                    have keep : ∀ {j m : Nat} {r : SV}, RowM kRF 54 (MFrm vs) wr j m r → RowM kRF 54 (MFrm vs) w5 j m r := fun h => h.chg kpFrm hc5.out (fun b hb h' => rowSv_ne hgr h (by decide) b hb h') hTv
                    refine ⟨k + 1, gs ++ [g], (A5, n5, c5), by go_num, rfl, by omega, ⟨by rw [List.length_append, hgl.out]; rfl⟩, ⟨Kd.R_tight rfl hr5.out⟩, ⟨fun j q hq => ?_⟩, ⟨fun j q r hq hr => ?_⟩, ⟨disj_snoc hDg.out (fun b hb => (hnot.out b (hAlt.out.own b hb)).qs)⟩, ⟨fun b hb => ?_⟩, ⟨(hCw.out.trans hC3.out (fun b _ h => ⟨k, _, hpA.out, h⟩)).trans hc5.out (fun b hlt h => ?_)⟩⟩
                    · by_cases hj : j = k
                      · subst hj
                        rw [hpA.out] at hq
                        injection hq with hq
                        subst hq
                        exact keep hrp
                      · exact keep (hBe.out.ps j q hq hj)
                    · rcases Nat.lt_or_ge j gs.length with hj | hj
                      · rw [List.getElem?_append_left hj] at hr
                        exact ⟨⟨keep (hBe.out.qs j q r hq hr).1, (hBe.out.qs j q r hq hr).2⟩, (hQ.out j q r hq hr).2⟩
                      · rw [List.getElem?_append_right hj] at hr
                        have hj0 : j - gs.length = 0 := by
                          have := (List.getElem?_eq_some_iff.1 hr).1
                          simp at this
                          omega
                        rw [hj0] at hr
                        simp at hr
                        subst hr
                        have hjk : j = k := by have := hgl.out; omega
                        subst hjk
                        rw [hpA.out] at hq
                        injection hq with hq
                        subst hq
                        exact ⟨⟨keep hX.out, hgn.out⟩, hAlt.out.news hCw.out.size⟩
                    · rcases hr5.out.1 b hb with h | h
                      · exact hGn.out b h
                      · exact Nat.le_trans (Nat.le_trans hCw.out.size hC3.out.size) h.1
                    · have := hGn.out b h; omega
            · have hkN : N = k := by omega
              subst hkN
              have hC9 := Aside0.mk (hCh.out.trans hCw.out (fun _ _ h => h))
              obtain ⟨gA, gn, gc0⟩ := gv
              have hgn : gn = N := Eq.trans (Kd.R_reads' hG.out).1 hgl.out
              subst hgn
              simp only
              go_wp2
              go_loopw [12, 13, 14] (fun i9 _ _ w4 => ∃ k : Nat, i9 = .int .i64 k ∧ k ≤ gn ∧ Aside0 (Chg (fun _ => False) wr w4)) (fun i9 _ _ _ => gn - (intOf i9).toNat)
              case atStart => exact ⟨0, rfl, by omega, ⟨Chg.refl _ _⟩⟩
              case round =>
                obtain ⟨k, rfl, hk, hwe⟩ := hrel
                have hC8 := Aside0.mk (hC9.out.trans hwe.out (fun _ _ h => h.elim))
                by_cases hlt : k < gn
                · skip
                  obtain ⟨p, hp⟩ : ∃ p, vs[k]? = some p := ⟨vs[k]'(by have := hNA.out; omega), List.getElem?_eq_getElem (by have := hNA.out; omega)⟩
                  obtain ⟨hpn, _⟩ := hrA.out k p hp
                  obtain rfl := hAA.out (by omega)
                  have x0 := Aside0.mk (cell_keep hC8.out hBA.out (hHA.out k p hp))
                  have hG2 := R_chg hG.out hwe.out (fun _ _ _ h => h)
                  obtain ⟨gq, gc, ge, _⟩ := Kd.R_form hG2 (by rw [hgl.out]; omega)
                  have hgC := R_Cs hG2
                  unfold slv at ge
                  injection ge with ge1 ge2 ge3
                  subst ge1
                  clear ge2 ge3
                  obtain ⟨ad, q, e1, hq, y0⟩ := sl_at hgC k hlt
                  injection e1 with e1
                  subst e1
                  have y1 : Aside0 (wr.cell? ⟨gq, k, none⟩ = some (.slice q.1 q.2.1 q.2.2)) := ⟨by rw [add_plain] at y0; exact y0⟩
                  obtain ⟨⟨hqr, hql⟩, _⟩ := hQ.out k p q hp hq
                  replace hqr := Aside0.mk (hqr.chg kpFrm hwe.out (fun _ _ h => h) (fun _ _ h => h.elim))
                  have hpr := Aside0.mk ((hP.out k p hp).chg kpFrm hwe.out (fun _ _ h => h) (fun _ _ h => h.elim))
                  have hk0 : (0 : Int) ≤ k := by omega
                  obtain ⟨Q, qn, qc⟩ := q
                  obtain ⟨P, n, c⟩ := p
                  simp only at hql hpn
                  subst hql
                  have hp3 := Aside0.mk hp
                  clear y0 hp hq hgC hG2
                  have hk1 : (k : Int) < gn := by omega
                  have hx0 : wr.cell? ⟨B, k, none⟩ = some (.slice P n c) := x0.out
                  have hy1 : wr.cell? ⟨gq, k, none⟩ = some (.slice Q (n + 64) qc) := y1.out
                  go_wp2
                  clear hy1 hx0
                  go_loopw [13] (fun i10  w5 => ∃ i : Nat, i10 = .int .i64 i ∧ n ≤ i ∧ i ≤ n + 64 ∧ Aside0 (Chg (fun _ => False) wr w5)) (fun i10  _ => n + 64 - (intOf i10).toNat)
                  case atStart => exact ⟨n, rfl, by omega, by omega, ⟨Chg.refl _ _⟩⟩
                  case round =>
                    obtain ⟨i, rfl, hlo, hi, hwe2⟩ := hrel
                    have hwe3 := Aside0.mk (hwe.out.trans hwe2.out (fun _ _ h => h))
                    have y2 : wr.cell? ⟨gq, k, none⟩ = some (.slice Q (n + 64) qc) := cell_keep hwe2.out (fun h => h) y1.out
                    have x2 : wr.cell? ⟨B, k, none⟩ = some (.slice P n c) := cell_keep hwe2.out (fun h => h) x0.out
                    by_cases hil : i < n + 64
                    · have hi0 : (0 : Int) ≤ i := by omega
                      have hi1 : (i : Int) < (n : Int) + 64 := by omega
                      have hr6 := hqr.out.chg kpFrm hwe2.out (fun _ _ h => h) (fun _ _ h => h.elim)
                      obtain ⟨gg, e3, _⟩ := hr6.head (by simp only; omega)
                      simp only at e3
                      subst e3
                      obtain z0 := cell_FrmB hr6 hp3.out hil hil hlo
                      have hwk : IntKind.i64.wrap (-1 - (k : Int)) = -1 - (k : Int) := by simp [IntKind.wrap, IntKind.bits, IntKind.signed]; omega
                      clear hr6
                      go_wp2
                      go_roundw
                      case measure => first | (simp [intOf]; done) | (simp [intOf]; omega)
                      case rel => exact ⟨i + 1, by go_num, by omega, by omega, hwe2⟩
                    · have hi64 : i = n + 64 := by omega
                      subst hi64
                      replace y1 := Aside0.mk (cell_keep hwe2.out (fun h => h) y1.out)
                      replace x0 := Aside0.mk (cell_keep hwe2.out (fun h => h) x0.out)
                      replace hqr := Aside0.mk (hqr.out.chg kpFrm hwe2.out (fun _ _ h => h) (fun _ _ h => h.elim))
                      replace hpr := Aside0.mk (hpr.out.chg kpFrm hwe2.out (fun _ _ h => h) (fun _ _ h => h.elim))
                      replace hwe := hwe3
                      clear hwe2 hwe3
                      go_wp2
                      clear y2 x2
                      go_loopw [14] (fun i10  w5 => ∃ i : Nat, i10 = .int .i64 i ∧ i ≤ n ∧ Aside0 (Chg (fun _ => False) wr w5)) (fun i10  _ => n - (intOf i10).toNat)
                      case atStart => exact ⟨0, rfl, by omega, ⟨Chg.refl _ _⟩⟩
                      case round =>
                        obtain ⟨i, rfl, hi, hwe2⟩ := hrel
                        have hwe3 := Aside0.mk (hwe.out.trans hwe2.out (fun _ _ h => h))
                        have y2 : wr.cell? ⟨gq, k, none⟩ = some (.slice Q (n + 64) qc) := cell_keep hwe2.out (fun h => h) y1.out
                        have x2 : wr.cell? ⟨B, k, none⟩ = some (.slice P n c) := cell_keep hwe2.out (fun h => h) x0.out
                        by_cases hil : i < n
                        · have hi0 : (0 : Int) ≤ i := by omega
                          have hi1 : (i : Int) < (n : Int) := by omega
                          have hr6 := hpr.out.chg kpFrm hwe2.out (fun _ _ h => h) (fun _ _ h => h.elim)
                          obtain ⟨gg, e3, _⟩ := hr6.head (by simp only; omega)
                          simp only at e3
                          subst e3
                          obtain ⟨z0, z1⟩ := cell_FrmA hr6 hp3.out hil hil hil
                          clear hr6
                          go_wp2
                          go_roundw
                          case measure => first | (simp [intOf]; done) | (simp [intOf]; omega)
                          case rel => exact ⟨i + 1, by go_num, by omega, hwe2⟩
                        · have hi64 : i = n := by omega
                          subst hi64
                          go_wp2
                          go_roundw
                          case measure => first | (simp [intOf]; done) | (simp [intOf]; omega)
                          case rel => exact ⟨k + 1, by go_num, by omega, hwe3⟩
                · have hkN : k = gn := by omega
                  subst hkN
                  go_wp2
                  go_ret
                  exact ⟨rfl, by have hv := hvsA.out; subst hv; exact hCv.out.trans hC8.out (fun _ _ h => .inl h)⟩
end Go.Proofs.Ytdoghjmanogelaa.K

namespace Go.Proofs.Ytdoghjmanogelaa.K
open Go.RowKit Go.Proofs.YtdoghjmanogelaaW.PrintWords Go.Proofs.YtdoghjmanogelaaW.PrintLast Go.Proofs.YtdoghjmanogelaaW.PrintMore
set_option linter.unusedVariables false
set_option linter.unusedSimpArgs false
set_option maxRecDepth 100000
section
variable {α β : Type} {d : Kd α} {d' : Kd β} {t t' : TypeId} {N : Nat} {w wr w1 : World} {gv gv' : SV} {xs zs : List α} {ys : List β} {S : Nat → Prop} {A1 : Option Addr} {n1 c1 : Nat}
structure Lst (d : Kd α) (t : TypeId) (N : Nat) (W : World) (gv : SV) (xs : List α) : Prop where
  row : RowG d t W gv xs
  new : ∀ b, (slv gv).ownBlock = some b → N ≤ b
theorem Lst.nil : Lst d t N wr (none, 0, 0) [] := ⟨Kd.R_nil _ _ _ _ _, fun b hb => by cases hb⟩
theorem Lst.app (h : Lst d t N wr gv xs) (hN : N ≤ wr.heap.size) (hE : d.E = []) (h1 : Kd.R d t w1 0 (New (fun b => (slv gv).ownBlock = some b) wr w1) (.slice A1 n1 c1) zs) : Lst d t N w1 (A1, n1, c1) zs :=
  ⟨Kd.R_tight hE h1, fun b hb => by
    rcases h1.1 b hb with h2 | h2
    · exact h.new b h2
    · exact Nat.le_trans hN h2.1⟩
theorem Lst.beside (h : Lst d t N wr gv xs) (h2 : Lst d' t' N wr gv' ys) (hc : Chg (fun b => (slv gv').ownBlock = some b) wr w1) (ht : t ≠ t') : Lst d t N w1 gv xs :=
  ⟨h.row.chg hc (fun b hb hb2 => typ_ne (Kd.R_typed h.row b hb) (Kd.R_typed h2.row b hb2) ht), h.new⟩
theorem Lst.O (h : Lst d t N wr gv xs) : Aside0 (Kd.R d t wr 0 (New (fun b => (slv gv).ownBlock = some b) wr wr) (.slice gv.1 gv.2.1 gv.2.2) xs) := ⟨Kd.R_mono h.row (fun b hb => .inl hb.symm)⟩
theorem Lst.ch (h : Lst d t w.heap.size wr gv xs) (hC : Chg S w wr) (hc : Chg (fun b => (slv gv).ownBlock = some b) wr w1) : Chg S w w1 := hC.trans hc (fun b hlt hb => absurd (h.new b hb) (by omega))
theorem Lst.chg (h : Lst d t N wr gv xs) (hc : Chg S wr w1) (hS : ∀ b, (slv gv).ownBlock = some b → ¬ S b) : Lst d t N w1 gv xs := ⟨h.row.chg hc hS, h.new⟩
theorem map_take {γ : Type} {f : α → γ} {k : Nat} {x : α} (h : xs[k]? = some x) : (xs.take (k + 1)).map f = (xs.take k).map f ++ [f x] := by rw [List.take_add_one, h]; simp
end
theorem infoKL : (Try.prog.info? 57).map (fun i => (i.zero, i.size, i.bytes)) = some (some (.slice none 0 0), 1, 24) := by kernel_rfl
set_option maxHeartbeats 4000000
theorem kit_ApartObjects (w : World) (A : Option Addr) (N cap : Nat) (ros : List RO) (hC : Kd.C kRO w A N ros) (hNb : N ≤ 1099511627776)
    (hI : ∀ (j : Nat) (r : RO), ros[j]? = some r → r.items.2.1 ≤ 8796093022000 ∧ ∃ xs, RowG kQV 56 w r.items xs) (hK : ∀ (j : Nat) (r : RO), ros[j]? = some r → r.keys.2.1 ≤ 1099511627776 ∧ ∃ xs, RowG (Kd.int .i64) 2 w r.keys xs) (hDi : Disj (ros.map (·.items))) (hDk : Disj (ros.map (·.keys))) :
    Calls Try.prog 27 #[.slice A N cap] w fun e w' => e = .returned (.bool true) ∧ Chg (fun b => OwnS (ros.map (·.items)) b ∨ OwnS (ros.map (·.keys)) b) w w' := by
  have hCA := Aside0.mk hC
  have hIA := Aside0.mk hI
  have hKA := Aside0.mk hK
  have hDiA := Aside0.mk hDi
  have hDkA := Aside0.mk hDk
  have hNr : Aside0 (N = ros.length) := ⟨hC.1.symm⟩
  clear hC hI hK hDi hDk
  go_enter Try.func27, Try.ntmps27
  go_wp2
  go_loopw [3, 4, 5] (fun v3 v4 i5 wr => ∃ (k : Nat) (gi gk : SV), v3 = .slice gi.1 gi.2.1 gi.2.2 ∧ v4 = .slice gk.1 gk.2.1 gk.2.2 ∧ i5 = .int .i64 k ∧ k ≤ N ∧ Aside0 (Lst kSl 52 w.heap.size wr gi ((ros.take k).map (·.items))) ∧ Aside0 (Lst kSl 57 w.heap.size wr gk ((ros.take k).map (·.keys))) ∧ Aside0 (Chg (fun _ => False) w wr)) (fun _ _ i5 _ => N - (intOf i5).toNat)
  case atStart => exact ⟨0, (none, 0, 0), (none, 0, 0), rfl, rfl, rfl, by omega, ⟨by rw [List.take_zero]; exact Lst.nil⟩, ⟨by rw [List.take_zero]; exact Lst.nil⟩, ⟨Chg.refl _ _⟩⟩
  case round =>
    obtain ⟨k, gi, gk, rfl, rfl, rfl, hk, hLi, hLk, hCh⟩ := hrel
    by_cases hlt : k < N
    · have hk0 : (0 : Int) ≤ k := by omega
      have hk1 : (k : Int) < N := by omega
      obtain ⟨ad, r, e1, hr, _, y1, _⟩ := atRO (C_chg hCA.out (hCh.out.below (fun _ _ h => h))) k hlt
      subst e1
      have hrA := Aside0.mk hr
      have hl : Aside0 ((((ros.take k).map (·.items)).length + 1) * 24 ≤ 140737488355328) := ⟨by rw [List.length_map, List.length_take]; omega⟩
      have hl2 : Aside0 ((((ros.take k).map (·.keys)).length + 1) * 24 ≤ 140737488355328) := ⟨by rw [List.length_map, List.length_take]; omega⟩
      have hO := hLi.out.O
      have hRef := Aside0.mk (Chg.refl (fun b => (slv gi).ownBlock = some b) wr)
      clear hr
      go_upto_region 7 with (at_builtin; refine app1 kSl rfl (.tmp 14) (.tmp 20) rfl Try.underlying41 infoVL rfl (by decide) (by decide) r.items rfl rfl (kSl_M _ _ _) hO hRef hl ?_; go_must (intro v1 w1 hr1 hc1); go_must (obtain ⟨A1, n1, c1, rfl⟩ := R_sl hr1.out))
      (try simp only [Act.put, List.setIfInBounds_toArray, List.set_cons_zero, List.set_cons_succ])
      have hi1 := Aside0.mk (Lst.app hLi.out hCh.out.size rfl hr1.out)
      have hk2 := Aside0.mk (hLk.out.beside hLi.out hc1.out (by decide))
      have hC1 := Aside0.mk (Lst.ch hLi.out hCh.out hc1.out)
      clear y1 hO hRef
      obtain ⟨_, r', e1, hr, _, _, y2, _⟩ := atRO (C_chg hCA.out (hC1.out.below (fun _ _ h => h))) k hlt
      injection e1 with e1
      subst e1
      rw [hrA.out] at hr
      injection hr with hr
      subst hr
      have hO := hk2.out.O
      have hRef := Aside0.mk (Chg.refl (fun b => (slv gk).ownBlock = some b) w1)
      go_wp2_with (at_builtin; refine app1 kSl rfl (.tmp 22) (.tmp 28) rfl Try.underlying130 infoKL rfl (by decide) (by decide) r.keys rfl rfl (kSl_M _ _ _) hO hRef hl2 ?_; go_must (intro v2 w2 hr2 hc2); go_must (obtain ⟨A2, n2, c2, rfl⟩ := R_sl hr2.out))
      go_roundw
      case measure => first | (simp [intOf]; done) | (simp [intOf]; omega)
      case rel => exact ⟨k + 1, (A1, n1, c1), (A2, n2, c2), rfl, rfl, by go_num, by omega, ⟨by rw [map_take hrA.out]; exact hi1.out.beside hk2.out hc2.out (by decide)⟩, ⟨by rw [map_take hrA.out]; exact Lst.app hk2.out hC1.out.size rfl hr2.out⟩, ⟨Lst.ch hk2.out hC1.out hc2.out⟩⟩
    · have hkN : N = k := by omega
      subst hkN
      have hI1 := hLi.out
      have hK1 := hLk.out
      rw [List.take_of_length_le (by have := hNr.out; omega)] at hI1 hK1
      obtain ⟨gA, gn, gc⟩ := gi
      obtain ⟨kA, kn, kc⟩ := gk
      have hgn : Aside0 ((ros.map (·.items)).length = gn) := ⟨hI1.row.len.symm⟩
      have hkn : Aside0 ((ros.map (·.keys)).length = kn) := ⟨hK1.row.len.symm⟩
      have hir : Aside0 (∀ (j : Nat) (p : SV), (ros.map (·.items))[j]? = some p → p.2.1 ≤ 8796093022000 ∧ ∃ xs, RowG kQV 56 wr p xs) := ⟨fun j p hp => by
        rw [List.getElem?_map] at hp
        obtain ⟨r, hr, rfl⟩ := Option.map_eq_some_iff.1 hp
        obtain ⟨h3, xs, h4⟩ := hIA.out j r hr
        exact ⟨h3, xs, h4.chg hCh.out (fun _ _ h => h)⟩⟩
      have hkr : Aside0 (∀ (j : Nat) (p : SV), (ros.map (·.keys))[j]? = some p → p.2.1 ≤ 1099511627776 ∧ ∃ xs, RowG (Kd.int .i64) 2 wr p xs) := ⟨fun j p hp => by
        rw [List.getElem?_map] at hp
        obtain ⟨r, hr, rfl⟩ := Option.map_eq_some_iff.1 hp
        obtain ⟨h3, xs, h4⟩ := hKA.out j r hr
        exact ⟨h3, xs, h4.chg hCh.out (fun _ _ h => h)⟩⟩
      have hit : Aside0 (∀ (j : Nat) (p : SV), (ros.map (·.items))[j]? = some p → ∀ b, (slv p).ownBlock = some b → ∃ cs, wr.heap[b]? = some (.cells cs 56 (0, 0))) := ⟨fun j p hp => by
        obtain ⟨_, xs, h4⟩ := hir.out j p hp
        exact Kd.R_typed h4⟩
      obtain ⟨IB, h1, h2⟩ := hdrs hI1.row
      have hcall := Aside0.mk (kit_ApartValues wr gA gn gc IB (ros.map (·.items)) hgn.out (by have := hgn.out; rw [List.length_map] at this; have := hNr.out; omega) (fun h => (h1 (by have := hgn.out; omega)).1) h2 (hdrs_not h1 hI1.row (fun h => h) hit.out (by decide)) hir.out hDiA.out)
      have hK1A := Aside0.mk hK1
      clear hI1 hK1 h1 h2 hLi hLk
      go_upto_region 9 with (go_at_call 28; go_must (refine hcall.out.mono ?_); go_must (rintro e w1 ⟨rfl, hc1, _⟩); go_must (replace hc1 := Aside0.mk hc1))
      (try simp only [Act.put, List.setIfInBounds_toArray, List.set_cons_zero, List.set_cons_succ])
      have hK2 : Lst kSl 57 w.heap.size w1 (kA, kn, kc) (ros.map (·.keys)) := hK1A.out.chg hc1.out (fun b hb ⟨j, p, hp, hb2⟩ => typ_ne (Kd.R_typed hK1A.out.row b hb) (hit.out j p hp b hb2) (by decide))
      have hkr2 : ∀ (j : Nat) (p : SV), (ros.map (·.keys))[j]? = some p → p.2.1 ≤ 1099511627776 ∧ ∃ xs, RowG (Kd.int .i64) 2 w1 p xs := fun j p hp => by
        obtain ⟨h3, xs, h4⟩ := hkr.out j p hp
        exact ⟨h3, xs, h4.chg hc1.out (fun b hb ⟨j, p, hp, hb2⟩ => typ_ne (Kd.R_typed h4 b hb) (hit.out j p hp b hb2) (by decide))⟩
      obtain ⟨KB, h1, h2⟩ := hdrs hK2.row
      have hcall2 := Aside0.mk (kit_ApartLongs w1 kA kn kc KB (ros.map (·.keys)) hkn.out (by have := hkn.out; rw [List.length_map] at this; have := hNr.out; omega) (fun h => (h1 (by have := hkn.out; omega)).1) h2 (hdrs_not h1 hK2.row (fun h => h) (fun j p hp => by obtain ⟨_, xs, h4⟩ := hkr2 j p hp; exact Kd.R_typed h4) (by decide)) hkr2 hDkA.out)
      clear hK2 hkr2 h1 h2
      go_wp2_with (go_at_call 72; go_must (refine hcall2.out.mono ?_); go_must (rintro e w2 ⟨rfl, hc2, _⟩); go_must (replace hc2 := Aside0.mk hc2))
      go_ret
      exact ⟨rfl, ((hCh.out.mono (fun _ _ h => h.elim)).trans hc1.out (fun _ _ h => .inl h)).trans hc2.out (fun _ _ h => .inr h)⟩
end Go.Proofs.Ytdoghjmanogelaa.K

namespace Go.Proofs.Ytdoghjmanogelaa.K
open Go.RowKit Go.Proofs.YtdoghjmanogelaaW.PrintWords Go.Proofs.YtdoghjmanogelaaW.PrintLast Go.Proofs.YtdoghjmanogelaaW.PrintMore
set_option linter.unusedVariables false
set_option linter.unusedSimpArgs false
set_option maxRecDepth 100000
def MSl (zs : List (SV × List RF)) (W : World) (k i : Nat) (x : RF) : Prop := ∀ (z : SV × List RF) (f : RF), zs[k]? = some z → z.2[i]? = some f → x.slots = f.slots
def MOb (ros : List RO) (W : World) (k i : Nat) (x : RO) : Prop := ∀ r : RO, ros[i]? = some r → x.items = r.items ∧ x.keys = r.keys
def MRb (rbs : List RB) (W : World) (k i : Nat) (x : RB) : Prop := ∀ r : RB, rbs[i]? = some r → x = r
theorem kpSl {zs : List (SV × List RF)} : Kp (MSl zs) 5 := fun _ _ _ _ _ _ _ _ h => h
theorem kpOb {ros : List RO} : Kp (MOb ros) 5 := fun _ _ _ _ _ _ _ _ h => h
theorem kpRb {rbs : List RB} : Kp (MRb rbs) 5 := fun _ _ _ _ _ _ _ _ h => h
theorem RowM.putPC {W : World} {zs : List (SV × List RF)} {k g n c i : Nat} (u : Int) (h : RowM kRF 54 (MSl zs) W k n (some ⟨g, 0, none⟩, n, c)) (hi : i < n) : RowM kRF 54 (MSl zs) (W.setCell ⟨g, i * 3 + 1, none⟩ (.int .i64 u)) k n (some ⟨g, 0, none⟩, n, c) := by
  obtain ⟨ys, h1, h2⟩ := h
  have hl : n = ys.length := h1.len
  obtain ⟨⟨f0, p0, s0⟩, hr⟩ : ∃ r, ys[i]? = some r := ⟨_, List.getElem?_eq_getElem (by omega)⟩
  have p1 := Ow.put (j := 1) (m := 3) (u := .int .i64 u) (r' := ⟨f0, u, s0⟩) kRF_K kRF_M rfl h1.ow hr rfl (by decide)
  refine ⟨_, p1.1, fun j y hj hy => ?_⟩
  by_cases hji : j = i
  · subst hji
    rw [List.getElem?_set_self (by omega)] at hy
    injection hy with hy
    subst hy
    have h3 := h2 j _ hj hr
    exact fun z f h5 h6 => h3 z f h5 h6
  · rw [List.getElem?_set_ne (Ne.symm hji)] at hy
    exact h2 j y hj hy
theorem RowM.putKind {W : World} {ros : List RO} {k g n c i : Nat} (u : Int) (h : RowM kRO 59 (MOb ros) W k n (some ⟨g, 0, none⟩, n, c)) (hi : i < n) : RowM kRO 59 (MOb ros) (W.setCell ⟨g, i * 6, none⟩ (.int .i64 u)) k n (some ⟨g, 0, none⟩, n, c) := by
  obtain ⟨ys, h1, h2⟩ := h
  have hl : n = ys.length := h1.len
  obtain ⟨⟨k0, i0, s0, f0, c0, u0⟩, hr⟩ : ∃ r, ys[i]? = some r := ⟨_, List.getElem?_eq_getElem (by omega)⟩
  have p1 := Ow.put (j := 0) (m := 6) (u := .int .i64 u) (r' := ⟨u, i0, s0, f0, c0, u0⟩) kRO_K kRO_M rfl h1.ow hr rfl (by decide)
  refine ⟨_, p1.1, fun j y hj hy => ?_⟩
  by_cases hji : j = i
  · subst hji
    rw [List.getElem?_set_self (by omega)] at hy
    injection hy with hy
    subst hy
    have h3 := h2 j _ hj hr
    exact fun r h5 => h3 r h5
  · rw [List.getElem?_set_ne (Ne.symm hji)] at hy
    exact h2 j y hj hy
theorem RowM.grown {α : Type} {d : Kd α} {e T : TypeId} {M : World → Nat → Nat → α → Prop} {S ok : Nat → Prop} {W w1 : World} {k m n1 c1 : Nat} {A1 : Option Addr} {g : SV} {xs : List α} {x : α} (hM : Kp M T) (hE : d.E = []) (h1 : RowG d e W g xs) (h2 : ∀ i y, i < m → xs[i]? = some y → M W k i y) (hl : g.2.1 = m) (hc : Chg S W w1) (hT : ∀ b cs, S b → W.heap[b]? ≠ some (.cells cs T (0, 0))) (hr : Kd.R d e w1 0 ok (.slice A1 n1 c1) (xs ++ [x])) (hx : M w1 k m x) : RowM d e M w1 k (m + 1) (A1, n1, c1) ∧ n1 = m + 1 := by
  have hxl : xs.length = m := by rw [← h1.len, hl]
  have hr2 := Kd.R_tight hE hr
  refine ⟨⟨_, hr2, fun j y hj hy => ?_⟩, ?_⟩
  · rcases Nat.lt_or_ge j m with hj2 | hj2
    · rw [List.getElem?_append_left (by omega)] at hy
      exact hM _ _ _ _ _ _ hc hT (h2 j y hj2 hy)
    · obtain rfl : j = m := by omega
      rw [List.getElem?_append_right (by omega), hxl, Nat.sub_self] at hy
      injection hy with hy
      subst hy
      exact hx
  · have := (Kd.R_reads' hr).1
    rw [this, List.length_append, hxl]
    rfl
def SpoilS (ov bv : SV) (zs : List (SV × List RF)) (b : Nat) : Prop := (slv ov).ownBlock = some b ∨ (slv bv).ownBlock = some b ∨ OwnS (zs.map (·.1)) b
def SpoilPost (w : World) (ov bv : SV) (ros : List RO) (zs : List (SV × List RF)) (e : Ending) (w' : World) : Prop := e = .returned (.tuple #[]) ∧ RowM kRO 59 (MOb ros) w' 0 ov.2.1 ov ∧ RowM kRB 51 (MRb (zs.map (fun z => ⟨z.1⟩))) w' 0 bv.2.1 bv ∧ (∀ (k : Nat) (z : SV × List RF), zs[k]? = some z → RowM kRF 54 (MSl zs) w' k z.1.2.1 z.1) ∧ Chg (SpoilS ov bv zs) w w'
set_option maxHeartbeats 4000000
theorem law_spoil (w : World) (tA oA bA : Option Addr) (tn tc on oc bn bc : Nat) (cu st sp rd : Int) (ros : List RO) (zs : List (SV × List RF)) (hO : RowG kRO 59 w (oA, on, oc) ros) (hB : RowG kRB 51 w (bA, bn, bc) (zs.map (fun z => ⟨z.1⟩)))
    (hF : ∀ (k : Nat) (z : SV × List RF), zs[k]? = some z → z.1.2.1 ≤ 1099511627776 ∧ RowG kRF 54 w z.1 z.2) (hD : Disj (zs.map (·.1))) (hon : on ≤ 1099511627776) (hbn : bn ≤ 1099511627776) :
    Calls Try.prog 25 #[.agg #[.slice tA tn tc, .slice oA on oc, .slice bA bn bc, .int .i64 cu, .int .i64 st, .int .i64 sp, .int .i64 rd]] w (SpoilPost w (oA, on, oc) (bA, bn, bc) ros zs) := by
  have hltA : Aside0 (∀ b, SpoilS (oA, on, oc) (bA, bn, bc) zs b → b < w.heap.size) := ⟨fun b hb => by
    rcases hb with h | h | ⟨k, p, hp, h⟩
    · exact hO.lt b h
    · exact hB.lt b h
    · rw [List.getElem?_map] at hp
      obtain ⟨z, hz, rfl⟩ := Option.map_eq_some_iff.1 hp
      exact (hF k z hz).2.lt b h⟩
  have hFA := Aside0.mk hF
  have hDA := Aside0.mk hD
  have hm : Aside0 (∀ {k : Nat} {z : SV × List RF}, zs[k]? = some z → (zs.map (·.1))[k]? = some z.1) := ⟨fun h => by rw [List.getElem?_map, h]; rfl⟩
  have hzl : Aside0 (bn = zs.length) := ⟨by have := hB.len; rw [List.length_map] at this; exact this⟩
  have hOA := Aside0.mk hO
  have hBA := Aside0.mk hB
  clear hO hB hF hD
  go_enter Try.func25, Try.ntmps25
  go_upto_region 1 with (fail)
  (try simp only [Act.put, List.setIfInBounds_toArray, List.set_cons_zero, List.set_cons_succ])
  generalize hW : World.alloc w _ = W0
  have B1 : Aside0 (W0.heap[w.heap.size]? = some (.cells #[.slice tA tn tc, .slice oA on oc, .slice bA bn bc, .int .i64 cu, .int .i64 st, .int .i64 sp, .int .i64 rd] 40)) := ⟨by rw [← hW]; exact heap_alloc_new w _⟩
  have hz0 : Aside0 (Chg (fun _ => False) w W0) := ⟨by rw [← hW]; exact cg⟩
  clear hW
  have hO0 : Aside0 (RowM kRO 59 (MOb ros) W0 0 on (oA, on, oc)) := ⟨ros, hOA.out.chg hz0.out (fun _ _ h => h), fun i x _ hx r hr => by rw [hx] at hr; injection hr with hr; subst hr; exact ⟨rfl, rfl⟩⟩
  have hB0 : Aside0 (RowM kRB 51 (MRb (zs.map (fun z => ⟨z.1⟩))) W0 0 bn (bA, bn, bc)) := ⟨_, hBA.out.chg hz0.out (fun _ _ h => h), fun i x _ hx r hr => by rw [hx] at hr; injection hr⟩
  have hF0 : Aside0 (∀ (k : Nat) (z : SV × List RF), zs[k]? = some z → RowM kRF 54 (MSl zs) W0 k z.1.2.1 z.1) := ⟨fun k z hz => ⟨_, (hFA.out k z hz).2.chg hz0.out (fun _ _ h => h), fun i x _ hx z' f hz' hf => by rw [hz] at hz'; injection hz' with hz'; subst hz'; rw [hx] at hf; injection hf with hf; rw [hf]⟩⟩
  have hFt : Aside0 (∀ b, OwnS (zs.map (·.1)) b → ∃ cs, W0.heap[b]? = some (.cells cs 54 (0, 0))) := ⟨fun b ⟨k, p, hp, h⟩ => by
    rw [List.getElem?_map] at hp
    obtain ⟨z, hz, rfl⟩ := Option.map_eq_some_iff.1 hp
    exact (hF0.out k z hz).typed b h⟩
  have hb0 : Aside0 (∀ b, SpoilS (oA, on, oc) (bA, bn, bc) zs b → b ≠ w.heap.size) := ⟨fun b hb e => by have := hltA.out b hb; omega⟩
  go_wp2
  go_loopw [2, 3, 4, 5] (fun i2 _ _ _ wr => ∃ k : Nat, i2 = .int .i64 k ∧ k ≤ bn ∧ Aside0 (∀ (j : Nat) (z : SV × List RF), zs[j]? = some z → RowM kRF 54 (MSl zs) wr j z.1.2.1 z.1) ∧ Aside0 (Chg (OwnS (zs.map (·.1))) W0 wr)) (fun i2 _ _ _ _ => bn - (intOf i2).toNat)
  case atStart => exact ⟨0, rfl, by omega, hF0, ⟨Chg.refl _ _⟩⟩
  case round =>
    obtain ⟨k, rfl, hk, hFr, hCh⟩ := hrel
    have B2 := Aside0.mk (hCh.out.blk B1.out (fun h => hb0.out _ (.inr (.inr h)) rfl))
    have p2 : wr.cell? ⟨w.heap.size, 2, none⟩ = some (.slice bA bn bc) := blk_cell B2.out 2
    have hBw := Aside0.mk (hB0.out.chg kpRb hCh.out (fun b hb hs => typ_ne (hB0.out.typed b hb) (hFt.out b hs) (by decide)) (fun b cs hs hc => typ_ne ⟨cs, hc⟩ (hFt.out b hs) (by decide)))
    by_cases hl : k < bn
    · have hk0 : (0 : Int) ≤ k := by omega
      have hk1 : (k : Int) < bn := by omega
      obtain ⟨rbs, h1, h2⟩ := hBw.out
      obtain ⟨gb, e1, _⟩ := h1.head (by rw [← h1.len]; simp only; omega)
      simp only at e1
      subst e1
      obtain ⟨z, hz⟩ : ∃ z, zs[k]? = some z := ⟨zs[k]'(by have := hzl.out; omega), List.getElem?_eq_getElem (by have := hzl.out; omega)⟩
      obtain ⟨rb, hrb⟩ : ∃ r, rbs[k]? = some r := ⟨_, List.getElem?_eq_getElem (by rw [← h1.len]; simp only; exact hl)⟩
      have hrz := h2 k rb hl hrb ⟨z.1⟩ (by rw [List.getElem?_map, hz]; rfl)
      subst hrz
      have q0 := ownRB h1.toC k hl hrb
      obtain ⟨hzn, hzf⟩ := hFA.out k z hz
      have hzA := Aside0.mk hz
      have hfl : Aside0 (z.1.2.1 = z.2.length) := ⟨hzf.len⟩
      obtain ⟨⟨P, n, c⟩, fs⟩ := z
      simp only at hzn q0 hfl
      clear hz h1 h2 hrb hzf
      go_wp2
      clear q0 p2
      go_loopw [4] (fun i4 w2 => ∃ i : Nat, i4 = .int .i64 i ∧ i ≤ n ∧ Aside0 (∀ (j : Nat) (z : SV × List RF), zs[j]? = some z → RowM kRF 54 (MSl zs) w2 j z.1.2.1 z.1) ∧ Aside0 (Chg (OwnS (zs.map (·.1))) W0 w2)) (fun i4 _ => n - (intOf i4).toNat)
      case atStart => exact ⟨0, rfl, by omega, hFr, hCh⟩
      case round =>
        obtain ⟨i, rfl, hi, hF2, hC2⟩ := hrel
        have hX := Aside0.mk (hF2.out k _ hzA.out)
        by_cases hil : i < n
        · have hi0 : (0 : Int) ≤ i := by omega
          have hi1 : (i : Int) < n := by omega
          obtain ⟨g, e1, e2⟩ := hX.out.head (by simp only; omega)
          simp only at e1
          subst e1
          obtain ⟨u1, c1, f1⟩ := cellN_RF hX.out hil (show 1 < 3 by decide)
          have hcs : Aside0 (Chg (fun b => b = g) wr (wr.setCell ⟨g, i * 3 + 1, none⟩ (.int .i64 (-5)))) := ⟨(Chg.refl (fun b => b = g) wr).setCell (p := ⟨g, i * 3 + 1, none⟩) (fun _ => rfl) _⟩
          have hX2 := Aside0.mk (RowM.putPC (-5) hX.out hil)
          have hT := Aside0.mk (hX.out.not (T := 5) (by decide))
          have e2A := Aside0.mk e2
          clear e2
          go_wp2
          go_roundw
          case measure => first | (simp [intOf]; done) | (simp [intOf]; omega)
          case rel =>
            refine ⟨i + 1, by go_num, by omega, ⟨fun j z hz => ?_⟩, ⟨hC2.out.trans hcs.out (fun b _ h => ⟨k, _, hm.out hzA.out, h ▸ e2A.out⟩)⟩⟩
            by_cases hj : j = k
            · subst hj
              rw [hzA.out] at hz
              injection hz with hz
              subst hz
              exact hX2.out
            · exact (hF2.out j z hz).chg kpSl hcs.out (fun b hb h => by subst h; exact hDA.out k j _ _ _ (hm.out hzA.out) (hm.out hz) (Ne.symm hj) e2A.out hb) (fun b cs hb => by subst hb; exact hT.out _ cs e2A.out)
        · obtain rfl : i = n := by omega
          go_wp2
          go_loopw [3, 5] (fun v3 i5 w3 => ∃ (m : Nat) (g : SV), i5 = .int .i64 m ∧ v3 = .slice g.1 g.2.1 g.2.2 ∧ m ≤ 16 ∧ Aside0 (g.2.1 = i + m) ∧ Aside0 (RowM kRF 54 (MSl zs) w3 k (i + m) g) ∧ Aside0 (AltM kRF 54 (MSl zs) w3 k wr.heap.size i m c P g) ∧ Aside0 (∀ (j : Nat) (z : SV × List RF), zs[j]? = some z → j ≠ k → RowM kRF 54 (MSl zs) w3 j z.1.2.1 z.1) ∧ Aside0 (Chg (fun b => (slv (P, i, c)).ownBlock = some b) wr w3)) (fun _ i5 _ => 16 - (intOf i5).toNat)
          case atStart => exact ⟨0, (P, i, c), rfl, rfl, by omega, ⟨rfl⟩, hX, ⟨.inl rfl⟩, ⟨fun j z hz _ => hF2.out j z hz⟩, ⟨Chg.refl _ _⟩⟩
          case round =>
            obtain ⟨m, g, rfl, rfl, hm16, hgn, hY, hAlt, hOth, hC3⟩ := hrel
            by_cases hml : m < 16
            · have hY0 := hY.out
              obtain ⟨xs, h1, h2⟩ := hY0
              have h1A := Aside0.mk h1
              have h2A := Aside0.mk h2
              have hxl : Aside0 (xs.length = i + m) := ⟨by rw [← h1.len]; exact hgn.out⟩
              have hlen : Aside0 ((xs.length + 1) * 40 ≤ 140737488355328) := ⟨by rw [hxl.out]; omega⟩
              have hO1 : Aside0 (Kd.R kRF 54 wr 0 (New (fun b => (slv g).ownBlock = some b) wr wr) (.slice g.1 g.2.1 g.2.2) xs) := ⟨Kd.R_mono h1 (fun b hb => .inl hb.symm)⟩
              have hRef := Aside0.mk (Chg.refl (fun b => (slv g).ownBlock = some b) wr)
              clear h1 h2
              go_wp2_with (at_builtin; refine app1K kRF rfl (.tmp 37) (.tmp 39) rfl Try.underlying49 infoRF rfl (by decide) (by decide) (⟨0, -6, (none, 0, 0)⟩ : RF) rfl rfl (kRF_M _ _ _ _) hO1 hRef hlen ?_; go_must (intro v1 w1 hr1 hc1 halt); go_must (obtain ⟨A1, n1, c1, rfl⟩ := R_sl hr1.out))
              go_roundw
              case measure => first | (simp [intOf]; done) | (simp [intOf]; omega)
              case rel =>
                have hT := hY.out.not (T := 5) (by decide)
                obtain ⟨hg1, hg2⟩ := RowM.grown kpSl rfl h1A.out h2A.out hgn.out hc1.out hT hr1.out (fun z f hz hf => by
                  rw [hzA.out] at hz
                  injection hz with hz
                  subst hz
                  have := (List.getElem?_eq_some_iff.1 hf).1
                  have := hfl.out
                  simp only at *
                  omega)
                refine ⟨m + 1, (A1, n1, c1), by go_num, rfl, by omega, ⟨hg2⟩, ⟨hg1⟩, ⟨hAlt.out.step kpSl hY.out hgn.out (by decide) hC3.out.size hX.out.lt hc1.out (by have h0 := halt.out; rw [hxl.out] at h0; exact h0)⟩, ⟨fun j z hz hj => (hOth.out j z hz hj).chg kpSl hc1.out (fun b hb h => ?_) hT⟩, ⟨hC3.out.trans hc1.out (fun b hlt h => (hAlt.out.own b h).elim id (fun h => absurd hlt (by omega)))⟩⟩
                rcases hAlt.out.own b h with h | h
                · exact hDA.out k j _ _ _ (hm.out hzA.out) (hm.out hz) (Ne.symm hj) h hb
                · have := (hF2.out j z hz).lt b hb
                  omega
            · obtain rfl : m = 16 := by omega
              go_wp2
              go_roundw
              case measure => first | (simp [intOf]; done) | (simp [intOf]; omega)
              case rel =>
                refine ⟨k + 1, by go_num, by omega, ⟨fun j z hz => ?_⟩, ⟨hC2.out.trans hC3.out (fun b _ h => ⟨k, _, hm.out hzA.out, h⟩)⟩⟩
                by_cases hj : j = k
                · subst hj
                  rw [hzA.out] at hz
                  injection hz with hz
                  subst hz
                  exact hAlt.out.row hY.out hgn.out
                · exact hOth.out j z hz hj
    · have hkN : bn = k := by omega
      subst hkN
      have hO1 := Aside0.mk (hO0.out.chg kpOb hCh.out (fun b hb hs => typ_ne (hO0.out.typed b hb) (hFt.out b hs) (by decide)) (fun b cs hs hc => typ_ne ⟨cs, hc⟩ (hFt.out b hs) (by decide)))
      go_wp2
      clear p2
      go_loopw [6] (fun i6 w2 => ∃ i : Nat, i6 = .int .i64 i ∧ i ≤ on ∧ Aside0 (RowM kRO 59 (MOb ros) w2 0 on (oA, on, oc)) ∧ Aside0 (Chg (fun b => (slv (oA, on, oc)).ownBlock = some b) wr w2)) (fun i6 _ => on - (intOf i6).toNat)
      case atStart => exact ⟨0, rfl, by omega, hO1, ⟨Chg.refl _ _⟩⟩
      case round =>
        obtain ⟨i, rfl, hi, hX, hC2⟩ := hrel
        have B3 := Aside0.mk (hC2.out.blk B2.out (fun h => hb0.out _ (.inl h) rfl))
        have p1 : wr.cell? ⟨w.heap.size, 1, none⟩ = some (.slice oA on oc) := blk_cell B3.out 1
        have p2 : wr.cell? ⟨w.heap.size, 2, none⟩ = some (.slice bA bn bc) := blk_cell B3.out 2
        by_cases hil : i < on
        · have hi0 : (0 : Int) ≤ i := by omega
          have hi1 : (i : Int) < on := by omega
          obtain ⟨g, e1, e2⟩ := hX.out.head (by simp only; omega)
          simp only at e1
          subst e1
          obtain ⟨u0, c0, f0⟩ := cellN_RO hX.out hil (show 0 < 6 by decide)
          simp only [Nat.add_zero] at c0 f0
          have hcs : Aside0 (Chg (fun b => b = g) wr (wr.setCell ⟨g, i * 6, none⟩ (.int .i64 55))) := ⟨(Chg.refl (fun b => b = g) wr).setCell (p := ⟨g, i * 6, none⟩) (fun _ => rfl) _⟩
          have hX2 := Aside0.mk (RowM.putKind 55 hX.out hil)
          have e2A := Aside0.mk e2
          clear e2
          go_wp2
          go_roundw
          case measure => first | (simp [intOf]; done) | (simp [intOf]; omega)
          case rel => exact ⟨i + 1, by go_num, by omega, hX2, ⟨hC2.out.trans hcs.out (fun b _ h => h ▸ e2A.out)⟩⟩
        · obtain rfl : i = on := by omega
          have hB2 := Aside0.mk (hBw.out.chg kpRb hC2.out (fun b hb hs => typ_ne (hBw.out.typed b hb) (hO1.out.typed b hs) (by decide)) (fun b cs hs hc => typ_ne ⟨cs, hc⟩ (hO1.out.typed b hs) (by decide)))
          have hF2 : Aside0 (∀ (j : Nat) (z : SV × List RF), zs[j]? = some z → RowM kRF 54 (MSl zs) wr j z.1.2.1 z.1) := ⟨fun j z hz => (hFr.out j z hz).chg kpSl hC2.out (fun b hb hs => typ_ne ((hFr.out j z hz).typed b hb) (hO1.out.typed b hs) (by decide)) (fun b cs hs hc => typ_ne ⟨cs, hc⟩ (hO1.out.typed b hs) (by decide))⟩
          go_wp2
          clear p1 p2
          go_loopw [7, 8, 9] (fun v7 v8 i9 w3 => ∃ (m : Nat) (g h : SV), v7 = .slice g.1 g.2.1 g.2.2 ∧ v8 = .slice h.1 h.2.1 h.2.2 ∧ i9 = .int .i64 m ∧ m ≤ 16 ∧ Aside0 (g.2.1 = i + m) ∧ Aside0 (h.2.1 = bn + m) ∧ Aside0 (RowM kRO 59 (MOb ros) w3 0 (i + m) g) ∧ Aside0 (RowM kRB 51 (MRb (zs.map (fun z => ⟨z.1⟩))) w3 0 (bn + m) h) ∧ Aside0 (AltM kRO 59 (MOb ros) w3 0 wr.heap.size i m oc oA g) ∧ Aside0 (AltM kRB 51 (MRb (zs.map (fun z => ⟨z.1⟩))) w3 0 wr.heap.size bn m bc bA h) ∧ Aside0 (Chg (fun b => (slv (oA, i, oc)).ownBlock = some b ∨ (slv (bA, bn, bc)).ownBlock = some b) wr w3)) (fun _ _ i9 _ => 16 - (intOf i9).toNat)
          case atStart => exact ⟨0, (oA, i, oc), (bA, bn, bc), rfl, rfl, rfl, by omega, ⟨rfl⟩, ⟨rfl⟩, hX, hB2, ⟨.inl rfl⟩, ⟨.inl rfl⟩, ⟨Chg.refl _ _⟩⟩
          case round =>
            obtain ⟨m, g, h, rfl, rfl, rfl, hm16, hgn, hhn, hY, hZ, hAg, hAh, hC3⟩ := hrel
            by_cases hml : m < 16
            · have hY0 := hY.out
              obtain ⟨xs, h1, h2⟩ := hY0
              have h1A := Aside0.mk h1
              have h2A := Aside0.mk h2
              have hxl : Aside0 (xs.length = i + m) := ⟨by rw [← h1.len]; exact hgn.out⟩
              have hlen : Aside0 ((xs.length + 1) * 80 ≤ 140737488355328) := ⟨by rw [hxl.out]; omega⟩
              have hO2 : Aside0 (Kd.R kRO 59 wr 0 (New (fun b => (slv g).ownBlock = some b) wr wr) (.slice g.1 g.2.1 g.2.2) xs) := ⟨Kd.R_mono h1 (fun b hb => .inl hb.symm)⟩
              have hRef := Aside0.mk (Chg.refl (fun b => (slv g).ownBlock = some b) wr)
              clear h1 h2
              go_upto_region 23 with (at_builtin; refine app1K kRO rfl (.tmp 61) (.tmp 63) rfl Try.underlying37 infoRO rfl (by decide) (by decide) (⟨56, (none, 0, 0), (none, 0, 0), 0, 0, false⟩ : RO) rfl rfl (kRO_M _ _ _ _) hO2 hRef hlen ?_; go_must (intro v1 w1 hr1 hc1 halt); go_must (obtain ⟨A1, n1, c1, rfl⟩ := R_sl hr1.out))
              (try simp only [Act.put, List.setIfInBounds_toArray, List.set_cons_zero, List.set_cons_succ])
              have hTy := Aside0.mk (hY.out.not (T := 5) (by decide))
              have hg0 : Aside0 (RowM kRO 59 (MOb ros) w1 0 (i + m + 1) (A1, n1, c1) ∧ n1 = i + m + 1) := ⟨RowM.grown kpOb rfl h1A.out h2A.out hgn.out hc1.out hTy.out hr1.out (fun r hr => by
                have h5 := (List.getElem?_eq_some_iff.1 hr).1
                have h6 := hOA.out.len
                simp only at h6
                omega)⟩
              have hAg1 := Aside0.mk (hAg.out.step kpOb hY.out hgn.out (by decide) hC3.out.size hX.out.lt hc1.out (by have h0 := halt.out; rw [hxl.out] at h0; exact h0))
              have hZ1 := Aside0.mk (hZ.out.chg kpRb hc1.out (fun b hb hs => typ_ne (hZ.out.typed b hb) (hY.out.typed b hs) (by decide)) hTy.out)
              have hBr := hAh.out.row hZ.out hhn.out
              have hAh1 := Aside0.mk (hAh.out.chg kpRb hc1.out hTy.out (fun b hb hs => typ_ne (hBr.typed b hb) (hY.out.typed b hs) (by decide)))
              have hC4 : Aside0 (Chg (fun b => (slv (oA, i, oc)).ownBlock = some b ∨ (slv (bA, bn, bc)).ownBlock = some b) _ w1) := ⟨hC3.out.trans hc1.out (fun b hlt h => (hAg.out.own b h).elim .inl (fun h => absurd hlt (by omega)))⟩
              clear hO2 hRef hlen hBr h1A h2A hxl halt hr1
              obtain ⟨W2, hW2⟩ : ∃ W2, W2 = w1.alloc (.cells #[.int .i64 0, .int .i64 (-7), .slice none 0 0] 54) := ⟨_, rfl⟩
              have hza : Aside0 (Chg (fun _ => False) w1 W2) := ⟨by rw [hW2]; exact (Chg.refl _ _).alloc _⟩
              have hZ2 := Aside0.mk (hZ1.out.chg kpRb hza.out (fun _ _ h => h) (fun _ _ h => h.elim))
              have hZ20 := hZ2.out
              obtain ⟨ys, h1, h2⟩ := hZ20
              have h1A := Aside0.mk h1
              have h2A := Aside0.mk h2
              have hyl : Aside0 (ys.length = bn + m) := ⟨by rw [← h1.len]; exact hhn.out⟩
              have hlen : Aside0 ((ys.length + 1) * 24 ≤ 140737488355328) := ⟨by rw [hyl.out]; omega⟩
              have hO2 : Aside0 (Kd.R kRB 51 (w1.alloc (.cells #[.int .i64 0, .int .i64 (-7), .slice none 0 0] 54)) 0 (New (fun b => (slv h).ownBlock = some b) (w1.alloc (.cells #[.int .i64 0, .int .i64 (-7), .slice none 0 0] 54)) (w1.alloc (.cells #[.int .i64 0, .int .i64 (-7), .slice none 0 0] 54))) (.slice h.1 h.2.1 h.2.2) ys) := ⟨by rw [← hW2]; exact Kd.R_mono h1 (fun b hb => .inl hb.symm)⟩
              have hRef := Aside0.mk (Chg.refl (fun b => (slv h).ownBlock = some b) (w1.alloc (.cells #[.int .i64 0, .int .i64 (-7), .slice none 0 0] 54)))
              have hW2A := Aside0.mk hW2
              clear h1 h2 hW2
              go_wp2_with (at_builtin; go_must (refine app1K kRB rfl (.tmp 65) (.tmp 69) rfl Try.underlying38 infoRB rfl (by decide) (by decide) (⟨(some ⟨w1.heap.size, 0, none⟩, 1, 1)⟩ : RB) rfl (by simp only [World.alloc, Array.size_push]; rfl) (kRB_M _ _ _ _) hO2 hRef hlen ?_); go_must (intro v2 w2 hr2 hc2 halt2); go_must (obtain ⟨A2, n2, c2, rfl⟩ := R_sl hr2.out))
              go_roundw
              case measure => first | (simp [intOf]; done) | (simp [intOf]; omega)
              case rel =>
                have hc2' := hc2.out
                have hr2' := hr2.out
                have ha2' := halt2.out
                rw [← hW2A.out] at hc2' hr2' ha2'
                have hTz := hZ2.out.not (T := 5) (by decide)
                have hg2 := RowM.grown kpRb rfl h1A.out h2A.out hhn.out hc2' hTz hr2' (fun r hr => by
                  have h5 := (List.getElem?_eq_some_iff.1 hr).1
                  have h6 := hzl.out
                  rw [List.length_map] at h5
                  omega)
                have hc12 : Chg (fun b => (slv h).ownBlock = some b) w1 w2 := (hza.out.mono (fun _ _ h => h.elim)).trans hc2' (fun _ _ h => h)
                have hTz1 := hZ1.out.not (T := 5) (by decide)
                have hne : ∀ b, ∀ {p : SV} {q m1 m2 : Nat}, RowM kRO 59 (MOb ros) w1 m1 m2 p → (slv p).ownBlock = some b → ¬ (slv h).ownBlock = some b := fun b p q m1 m2 hp hb hs => typ_ne (hp.typed b hb) (hZ1.out.typed b hs) (by decide)
                have hOr := hAg1.out.row hg0.out.1 hg0.out.2
                have hAh2 := hAh1.out.chg kpRb hza.out (fun _ _ h => h.elim) (fun _ _ h => h)
                refine ⟨m + 1, (A1, n1, c1), (A2, n2, c2), rfl, rfl, by go_num, by omega, ⟨hg0.out.2⟩, ⟨hg2.2⟩, ⟨hg0.out.1.chg kpOb hc12 (fun b hb => hne b (q := 0) hg0.out.1 hb) hTz1⟩, ⟨hg2.1⟩, ⟨hAg1.out.chg kpOb hc12 hTz1 (fun b hb => hne b (q := 0) hOr hb)⟩, ⟨hAh2.step kpRb hZ2.out hhn.out (by decide) (Nat.le_trans hC4.out.size hza.out.size) hB2.out.lt hc2' (by rw [hyl.out] at ha2'; exact ha2')⟩, ⟨hC4.out.trans hc12 (fun b hlt h => (hAh.out.own b h).elim .inr (fun h => absurd hlt (by omega)))⟩⟩
            · obtain rfl : m = 16 := by omega
              go_wp2
              refine bodyPost_ret (results_none rfl _ _ _) rfl ?_
              refine ⟨rfl, hAg.out.row hY.out hgn.out, hAh.out.row hZ.out hhn.out, fun j z hz => (hF2.out j z hz).chg kpSl hC3.out (fun b hb hs => ?_) (fun b cs hs hc => ?_), ?_⟩
              · rcases hs with hs | hs
                · exact typ_ne ((hF2.out j z hz).typed b hb) (hX.out.typed b hs) (by decide)
                · exact typ_ne ((hF2.out j z hz).typed b hb) (hB2.out.typed b hs) (by decide)
              · rcases hs with hs | hs
                · exact typ_ne ⟨cs, hc⟩ (hX.out.typed b hs) (by decide)
                · exact typ_ne ⟨cs, hc⟩ (hB2.out.typed b hs) (by decide)
              · refine ((((hz0.out.mono (fun _ _ h => h.elim)).trans hCh.out (fun b _ h => .inr (.inr h))).trans hC2.out (fun b _ h => .inl h)).trans hC3.out (fun b _ h => ?_))
                rcases h with h | h
                · exact .inl h
                · exact .inr (.inl h)
end Go.Proofs.Ytdoghjmanogelaa.K
