import Derived.Test.YtdoghjmanogelaaVx
import Derived.Test.YtdoghjmanogelaaUf
import Derived.IntWalk
import Derived.BigQuiet
namespace Go.Proofs.Ytdoghjmanogelaa.K
open Go.RowKit Go.Proofs.YtdoghjmanogelaaW.PrintWords Go.Proofs.YtdoghjmanogelaaW.PrintLast Go.Proofs.YtdoghjmanogelaaW.PrintMore
set_option linter.unusedVariables false
set_option linter.unusedSimpArgs false
set_option maxRecDepth 100000
theorem C_block {w : World} {g : Nat} {cs : Array Value} {t : TypeId} {xs : List Int} {fr : Nat × Nat} (h : w.heap[g]? = some (.cells cs t fr)) (hcs : cs = (xs.map (Value.int .u8)).toArray) (hl : xs.length ≤ 9223372036854775807) : Kd.C (Kd.int .u8) w (some ⟨g, 0, none⟩) xs.length xs := by
  refine ⟨rfl, hl, fun _ => ⟨_, rfl, fun j p hp => ⟨[Value.int .u8 p], rfl, rfl, fun i u hu => ?_⟩⟩⟩
  have hi : i = 0 := by
    rcases Nat.eq_zero_or_pos i with h0 | h0
    · exact h0
    · rw [List.getElem?_eq_none (by simp; omega)] at hu; cases hu
  subst hi
  simp at hu
  subst hu
  have e : (⟨g, 0, none⟩ : Addr).add (j * (Kd.int .u8).sz + 0) = ⟨g, j, none⟩ := by
    show (⟨g, 0, none⟩ : Addr).add (j * 1 + 0) = ⟨g, j, none⟩
    simp [Addr.add]
    intro h0; exact h0.symm
  rw [e, cell_of_row _ _ j cs t fr h, hcs]
  simp [hp]
theorem C_blockN {w : World} {cs : Array Value} {t : TypeId} {fr : Nat × Nat} {xs : List Int} (hcs : cs = (xs.map (Value.int .u8)).toArray) (hl : xs.length ≤ 9223372036854775807) : Kd.C (Kd.int .u8) (w.alloc (.cells cs t fr)) (some ⟨w.heap.size, 0, none⟩) xs.length xs :=
  C_block (heap_alloc_new w _) hcs hl
def mkTxt (k i : Nat) : ByteArray := strOfNums [35, (k : Int) % 256, (k : Int) / 256 % 256, (i : Int) % 256, (i : Int) / 256 % 256]
set_option maxHeartbeats 4000000 in
theorem kit_markText (w : World) (k i : Nat) (ii : Int) (hii : ii = (i : Int)) (hk : k ≤ 1099511627776) (hi : i ≤ 35184372088896) :
    Calls Try.prog 71 #[.int .i64 k, .int .i64 ii] w fun e w' => e = .returned (.string (mkTxt k i)) ∧ Chg (fun _ => False) w w' := by
  subst hii
  have hz : Aside0 (Chg (fun _ => False) w w) := ⟨Chg.refl _ _⟩
  have kc : (convert 73 9 (.slice (some ⟨w.heap.size, 0, none⟩) 5 5)).run Try.prog (w.alloc (.cells #[.int .u8 35, .int .u8 ((k : Int) % 256), .int .u8 ((k : Int) / 256 % 256), .int .u8 ((i : Int) % 256), .int .u8 ((i : Int) / 256 % 256)] 5)) = .ok (.string (mkTxt k i)) _ :=
    Kd.C_string Try.underlying73 Try.underlying5 Try.underlying9 (C_blockN (xs := [35, (k : Int) % 256, (k : Int) / 256 % 256, (i : Int) % 256, (i : Int) / 256 % 256]) rfl (by simp))
  go_enter Try.func71, Try.ntmps71
  go_wp2
  go_ret
  exact ⟨rfl, hz.out.alloc _⟩
set_option maxHeartbeats 4000000 in
theorem kit_markFrames (w : World) (k i : Nat) (ii : Int) (hii : ii = (i : Int)) :
    Calls Try.prog 73 #[.int .i64 k, .int .i64 ii] w fun e w' => e = .returned (.slice (some ⟨w.heap.size, 0, none⟩) 1 1) ∧ w' = w.alloc (.cells #[.int .i64 k, .int .i64 i, .slice none 0 0] 54) := by
  subst hii
  go_enter Try.func73, Try.ntmps73
  go_wp2
  go_ret
  exact ⟨rfl, rfl⟩
end Go.Proofs.Ytdoghjmanogelaa.K

namespace Go.Proofs.Ytdoghjmanogelaa.K
open Go.RowKit Go.Proofs.YtdoghjmanogelaaW.PrintWords Go.Proofs.YtdoghjmanogelaaW.PrintLast Go.Proofs.YtdoghjmanogelaaW.PrintMore
set_option linter.unusedVariables false
set_option linter.unusedSimpArgs false
set_option maxRecDepth 100000
theorem infoTxt : (Try.prog.info? 9).map (fun i => (i.zero, i.size, i.bytes)) = some (some (.string ByteArray.empty), 1, 16) := by kernel_rfl
theorem infoApartTextsL : (Try.prog.info? 36).map (fun i => (i.zero, i.size, i.bytes)) = some (some (.slice none 0 0), 1, 24) := by kernel_rfl
def MTxt (W : World) (k i : Nat) (x : ByteArray) : Prop := x = mkTxt k i
theorem kpT : Kp MTxt 5 := fun _ _ _ _ _ _ _ _ h => h
theorem cells_Txt {M : World → Nat → Nat → ByteArray → Prop} {W : World} {k m g n c i : Nat} (h : RowM Kd.string 9 M W k m (some ⟨g, 0, none⟩, n, c)) (hi : i < n) : ∃ u, W.cell? ⟨g, i, none⟩ = some u ∧ W.frozen? ⟨g, i, none⟩ = false := by
  obtain ⟨xs, h1, _⟩ := h
  obtain ⟨c1, f1⟩ := Kd.R_celln ByteArray.empty h1 (i : Int) (by omega) (Int.ofNat_lt.2 hi)
  exact ⟨_, c1, f1⟩
theorem cell_Txt {W : World} {k m g n c i : Nat} (h : RowM Kd.string 9 MTxt W k m (some ⟨g, 0, none⟩, n, c)) (hm : i < m) (hi : i < n) : W.cell? ⟨g, i, none⟩ = some (.string (mkTxt k i)) := by
  obtain ⟨xs, x, h1, hx, rfl⟩ := h.at hm hi
  obtain ⟨c1, f1⟩ := Kd.R_celln ByteArray.empty h1 (i : Int) (by omega) (Int.ofNat_lt.2 hi)
  rw [show rdOf ByteArray.empty xs (i : Int) = mkTxt k i by
    rw [rdOf, Int.toNat_natCast, List.getD_eq_getElem?_getD, hx]; rfl] at c1
  exact c1
set_option maxHeartbeats 4000000
theorem kit_ApartTexts (w : World) (A : Option Addr) (N cap B : Nat) (vs : List SV) (hN : vs.length = N) (hNb : N ≤ 1099511627776) (hA : 0 < N → A = some ⟨B, 0, none⟩) (hH : ∀ (k : Nat) (p : SV), vs[k]? = some p → w.cell? ⟨B, k, none⟩ = some (slv p)) (hB : ¬ OwnS vs B)
    (hrow : ∀ (k : Nat) (p : SV), vs[k]? = some p → p.2.1 ≤ 1099511627776 ∧ ∃ xs, RowG Kd.string 9 w p xs) (hD : Disj vs) :
    Calls Try.prog 26 #[.slice A N cap] w fun e w' => e = .returned (.bool true) ∧ Chg (OwnS vs) w w' := by
  have hHA := Aside0.mk hH
  have hrA := Aside0.mk hrow
  have hDA := Aside0.mk hD
  have hBA := Aside0.mk hB
  have hAA := Aside0.mk hA
  have hNA := Aside0.mk hN
  clear hH hrow hD hB hA hN
  go_enter Try.func26, Try.ntmps26
  go_wp2
  go_loopw [3, 4] (fun ik _ wr => ∃ k : Nat, ik = .int .i64 k ∧ k ≤ N ∧ Aside0 (RowsM Kd.string 9 MTxt wr vs k) ∧ Aside0 (Chg (OwnS vs) w wr)) (fun ik _ _ => N - (intOf ik).toNat)
  case atStart => exact ⟨0, rfl, by omega, ⟨fun j p hp => by obtain ⟨_, xs, h⟩ := hrA.out j p hp; exact RowM.zero h⟩, ⟨Chg.refl _ _⟩⟩
  case round =>
    obtain ⟨k, rfl, hk, hR, hCh⟩ := hrel
    by_cases hlt : k < N
    · skip
      obtain ⟨p, hp⟩ : ∃ p, vs[k]? = some p := ⟨vs[k]'(by have := hNA.out; omega), List.getElem?_eq_getElem (by have := hNA.out; omega)⟩
      obtain ⟨hpn, _⟩ := hrA.out k p hp
      obtain rfl := hAA.out (by omega)
      have x0 : wr.cell? ⟨B, k, none⟩ = some (.slice p.1 p.2.1 p.2.2) := cell_keep hCh.out hBA.out (hHA.out k p hp)
      have hk0 : (0 : Int) ≤ k := by omega
      have hk1 : (k : Int) < N := by omega
      have hpA := Aside0.mk hp
      obtain ⟨P, n, c⟩ := p
      simp only at hpn x0
      clear hp
      go_wp2
      go_loopw [4] (fun ii w2 => ∃ i : Nat, ii = .int .i64 i ∧ i ≤ n ∧ Aside0 (RowM Kd.string 9 MTxt w2 k i (P, n, c)) ∧ Aside0 (∀ (j : Nat) (p : SV), vs[j]? = some p → j ≠ k → RowM Kd.string 9 MTxt w2 j (if j < k then p.2.1 else 0) p) ∧ Aside0 (Chg (OwnS vs) w w2)) (fun ii _ => n - (intOf ii).toNat)
      case atStart => exact ⟨0, rfl, by omega, ⟨(hR.out k _ hpA.out).mono (Nat.zero_le _)⟩, ⟨fun j p hp _ => hR.out j p hp⟩, hCh⟩
      case round =>
        obtain ⟨i, rfl, hi, hX, hO, hC2⟩ := hrel
        have x1 : wr.cell? ⟨B, k, none⟩ = some (.slice P n c) := cell_keep hC2.out hBA.out (hHA.out k _ hpA.out)
        by_cases hil : i < n
        · have hX0 := hX.out
          obtain ⟨xs, h1, h2⟩ := hX0
          have hlen := h1.len
          simp only at hlen
          obtain ⟨g, e1, e2⟩ := h1.head (by omega)
          simp only at e1
          subst e1
          clear h1 h2
          have hi0 : (0 : Int) ≤ i := by omega
          have hi1 : (i : Int) < n := by omega
          have e2A := Aside0.mk e2
          clear e2 hlen
          have hz0 : Aside0 (Chg (fun _ => False) wr wr.drew) := ⟨(Chg.refl (fun _ => False) wr).drew⟩
          go_upto_region 7 with (fail)
          (try simp only [Act.put, List.setIfInBounds_toArray, List.set_cons_zero, List.set_cons_succ])
          refine start_ (n := 10) (S := fun w' => w'.cell? ⟨B, k, none⟩ = some (.slice (some ⟨g, 0, none⟩) n c)) (ds := [9]) #[false, false, false, false, false, false, false, false, false, false] (by kernel_rfl) rfl rfl (x1) (fun hHeld => ?_)
          refine pure_ (i := 0) (N := some 27) (v := ?_) (a' := ?_) #[true, false, false, false, false, false, false, false, false, false] rfl rfl (by kernel_rfl) (fun _ _ _ h => h) (Or.inl ⟨by rfl, ?_⟩) ?_ ?_
          rotate_left
          · intro w'
            go_simp
            with_reducible rfl
          rotate_left
          · simp only [Act.put, List.setIfInBounds_toArray, List.set_cons_zero, List.set_cons_succ, i64_w, i32_w]
            rfl
          refine pure_ (i := 1) (N := some 28) (v := ?_) (a' := ?_) #[true, true, false, false, false, false, false, false, false, false] rfl rfl (by kernel_rfl) (fun _ _ _ h => h) (Or.inl ⟨by rfl, ?_⟩) ?_ ?_
          rotate_left
          · intro w'
            go_simp
            with_reducible rfl
          rotate_left
          · simp only [Act.put, List.setIfInBounds_toArray, List.set_cons_zero, List.set_cons_succ, i64_w, i32_w]
            rfl
          refine pure_ (i := 2) (N := some 29) (v := ?_) (a' := ?_) #[true, true, true, false, false, false, false, false, false, false] rfl rfl (by kernel_rfl) (fun _ _ _ h => h) (Or.inl ⟨by rfl, ?_⟩) ?_ ?_
          rotate_left
          · intro w'
            go_simp
            with_reducible rfl
          rotate_left
          · simp only [Act.put, List.setIfInBounds_toArray, List.set_cons_zero, List.set_cons_succ, i64_w, i32_w]
            rfl
          refine pure_ (i := 4) (N := some 31) (v := ?_) (a' := ?_) #[true, true, true, false, true, false, false, false, false, false] rfl rfl (by kernel_rfl) (fun _ _ _ h => h) (Or.inl ⟨by rfl, ?_⟩) ?_ ?_
          rotate_left
          · intro w'
            go_simp
            with_reducible rfl
          rotate_left
          · simp only [Act.put, List.setIfInBounds_toArray, List.set_cons_zero, List.set_cons_succ, i64_w, i32_w]
            rfl
          refine pure_ (i := 5) (N := some 32) (v := ?_) (a' := ?_) #[true, true, true, false, true, true, false, false, false, false] rfl rfl (by kernel_rfl) (fun _ _ _ h => h) (Or.inl ⟨by rfl, ?_⟩) ?_ ?_
          rotate_left
          · intro w'
            go_simp
            with_reducible rfl
          rotate_left
          · simp only [Act.put, List.setIfInBounds_toArray, List.set_cons_zero, List.set_cons_succ, i64_w, i32_w]
            rfl
          refine pure_ (i := 6) (N := some 33) (v := ?_) (a' := ?_) #[true, true, true, false, true, true, true, false, false, false] rfl rfl (by kernel_rfl) (fun _ _ _ h => h) (Or.inl ⟨by rfl, ?_⟩) ?_ ?_
          rotate_left
          · intro w'
            go_simp
            with_reducible rfl
          rotate_left
          · simp only [Act.put, List.setIfInBounds_toArray, List.set_cons_zero, List.set_cons_succ, i64_w, i32_w]
            rfl
          refine take_ (i := 3) (N := some 30) (v := ?_) (a' := ?_) #[true, true, true, true, true, true, true, false, false, false] rfl rfl (by kernel_rfl) (fun _ _ _ h => h) (Or.inl ⟨by rfl, ?_⟩) hHeld ?_ ?_
          rotate_left
          · intro w' s0
            go_simp
            with_reducible rfl
          rotate_left
          · simp only [Act.put, List.setIfInBounds_toArray, List.set_cons_zero, List.set_cons_succ, i64_w, i32_w]
            rfl
          refine one_ (i := 7) (N := some 34) #[true, true, true, true, true, true, true, true, false, false] rfl rfl (by kernel_rfl) (by decide) (fun K hK => ?_)
          refine goes_ Try.func71 (by kernel_rfl) rfl #[.int .i64 k, .int .i64 i] (by rfl) rfl rfl (by simp only [List.map_toArray, List.map_cons, List.map_nil]; rfl) ?_
          with_reducible refine ((kit_markText wr.drew k i _ rfl (by omega) (by omega))).mono ?_
          rintro e w3 hp
          obtain ⟨rfl, hc3⟩ := hp
          refine ⟨_, rfl, ?_⟩
          have hz3 : Aside0 (Chg (fun _ => False) wr w3) := ⟨hz0.out.trans hc3 (fun _ _ h => h)⟩
          have x3 : w3.cell? ⟨B, k, none⟩ = some (.slice (some ⟨g, 0, none⟩) n c) := cell_keep hz3.out (fun h => h) x1
          obtain ⟨u, c1, f1⟩ := cells_Txt (hX.out.chg kpT hz3.out (fun _ _ h => h) (fun _ _ h => h.elim)) hil
          refine hK.out _ _ (x3) (fun hHeld => ?_)
          clear hK K
          refine norm_ (a' := ?_) ?_ ?_
          rotate_left
          · show Act.put _ (some 34) _ = _
            simp only [Act.put, List.setIfInBounds_toArray, List.set_cons_zero, List.set_cons_succ, i64_w, i32_w]
            rfl
          refine pure_ (i := 8) (N := some 35) (v := ?_) (a' := ?_) #[true, true, true, true, true, true, true, true, true, false] rfl rfl (by kernel_rfl) (fun _ _ _ h => h) (Or.inl ⟨by rfl, ?_⟩) ?_ ?_
          rotate_left
          · intro w'
            go_simp
            with_reducible rfl
          rotate_left
          · simp only [Act.put, List.setIfInBounds_toArray, List.set_cons_zero, List.set_cons_succ, i64_w, i32_w]
            rfl
          refine last_ (i := 9) (N := none) #[true, true, true, true, true, true, true, true, true, true] rfl rfl (by kernel_rfl) (by decide) (fun K hK => ?_)
          refine skip_ (w1 := ?_) (by rfl) rfl ?_ ?_
          rotate_left
          · go_simp
            rfl
          refine hK.out _ _ ?_
          clear hK K
          refine done_ (by kernel_rfl) ?_
          have hC3 := Aside0.mk (hC2.out.trans hz3.out (fun _ _ h => h.elim))
          have hX1 : Aside0 (RowM Kd.string 9 MTxt w3 k i (some ⟨g, 0, none⟩, n, c)) := ⟨hX.out.chg kpT hz3.out (fun _ _ h => h) (fun _ _ h => h.elim)⟩
          have hTg : Aside0 (∀ b cs, b = g → w3.heap[b]? ≠ some (.cells cs 5 (0, 0))) := ⟨fun b cs hb => by subst hb; exact hX1.out.not (by decide) _ cs e2A.out⟩
          have hcs : Aside0 (Chg (fun b => b = g) w3 (w3.setCell ⟨g, i, none⟩ (.string (mkTxt k i)))) := ⟨(Chg.refl (fun b => b = g) w3).setCell (p := ⟨g, i, none⟩) (fun _ => rfl) _⟩
          have hX2 : Aside0 (RowM Kd.string 9 MTxt (w3.setCell ⟨g, i, none⟩ (.string (mkTxt k i))) k (i + 1) (some ⟨g, 0, none⟩, n, c)) := ⟨hX1.out.put kpT hil (fun ys hy => Kd.R_putn hy (i : Int) _) hcs.out hTg.out rfl⟩
          go_wp2
          go_roundw
          case measure => first | (simp [intOf]; done) | (simp [intOf]; omega)
          case rel =>
            refine ⟨i + 1, by go_num, by omega, hX2, ⟨fun j p hp hj => ?_⟩, ⟨hC3.out.trans hcs.out (fun b _ h => ⟨k, _, hpA.out, h ▸ e2A.out⟩)⟩⟩
            exact ((hO.out j p hp hj).chg kpT hz3.out (fun _ _ h => h) (fun _ _ h => h.elim)).chg kpT hcs.out (fun b hb h => by subst h; exact hDA.out k j _ p _ hpA.out hp (Ne.symm hj) e2A.out hb) hTg.out
        · obtain rfl : i = n := by omega
          go_wp2
          go_roundw
          case measure => first | (simp [intOf]; done) | (simp [intOf]; omega)
          case rel =>
            refine ⟨k + 1, by go_num, by omega, ⟨fun j p hp => ?_⟩, hC2⟩
            by_cases hj : j = k
            · subst hj
              rw [hpA.out] at hp
              injection hp with hp
              subst hp
              rw [if_pos (by omega)]
              exact hX.out
            · have := hO.out j p hp hj
              by_cases hjk : j < k
              · rw [if_pos hjk] at this
                rw [if_pos (by omega)]
                exact this
              · rw [if_neg hjk] at this
                rw [if_neg (by omega)]
                exact this
    · have hkN : N = k := by omega
      subst hkN
      have hR1 : Aside0 (∀ (j : Nat) (p : SV), vs[j]? = some p → RowM Kd.string 9 MTxt wr j p.2.1 p) := ⟨fun j p hp => by
        have h1 := hR.out j p hp
        have hj : j < vs.length := (List.getElem?_eq_some_iff.1 hp).1
        rwa [if_pos (by have := hNA.out; omega)] at h1⟩
      clear hR
      go_wp2
      go_loopw [5, 6, 7, 8] (fun v5 i6 _ _ w2 => ∃ (k : Nat) (gs : List SV) (gv : SV), i6 = .int .i64 k ∧ v5 = .slice gv.1 gv.2.1 gv.2.2 ∧ k ≤ N ∧ Aside0 (gs.length = k) ∧ Aside0 (RowSv 36 w2 gv gs) ∧ Aside0 (∀ (j : Nat) (p : SV), vs[j]? = some p → RowM Kd.string 9 MTxt w2 j p.2.1 p) ∧
        Aside0 (∀ (j : Nat) (p q : SV), vs[j]? = some p → gs[j]? = some q → (RowM Kd.string 9 MTxt w2 j (p.2.1 + 64) q ∧ q.2.1 = p.2.1 + 64) ∧ ((slv q).ownBlock = (slv p).ownBlock ∨ ∃ b, (slv q).ownBlock = some b ∧ wr.heap.size ≤ b)) ∧ Aside0 (Disj gs) ∧ Aside0 (∀ b, (slv gv).ownBlock = some b → wr.heap.size ≤ b) ∧ Aside0 (Chg (OwnS vs) wr w2)) (fun _ i6 _ _ _ => N - (intOf i6).toNat)
      case atStart => exact ⟨0, [], (none, 0, 0), rfl, rfl, by omega, ⟨rfl⟩, ⟨Kd.R_nil _ _ _ _ _⟩, hR1, ⟨fun j p q _ hq => by cases hq⟩, ⟨fun j k p q b hp => by cases hp⟩, ⟨fun b hb => by cases hb⟩, ⟨Chg.refl _ _⟩⟩
      case round =>
        obtain ⟨k, gs, gv, rfl, rfl, hk, hgl, hG, hP, hQ, hDg, hGn, hCw⟩ := hrel
        by_cases hlt : k < N
        · have hCall := Aside0.mk (hCh.out.trans hCw.out (fun _ _ h => h))
          obtain ⟨p, hp⟩ : ∃ p, vs[k]? = some p := ⟨vs[k]'(by have := hNA.out; omega), List.getElem?_eq_getElem (by have := hNA.out; omega)⟩
          obtain ⟨hpn, _⟩ := hrA.out k p hp
          obtain rfl := hAA.out (by omega)
          have x0 : wr.cell? ⟨B, k, none⟩ = some (.slice p.1 p.2.1 p.2.2) := cell_keep hCall.out hBA.out (hHA.out k p hp)
          have hk0 : (0 : Int) ≤ k := by omega
          have hk1 : (k : Int) < N := by omega
          have hpA := Aside0.mk hp
          have hbes : Aside0 (BesideM Kd.string 9 36 MTxt wr vs gs gv k) := ⟨⟨hG.out, fun j q hq _ => hP.out j q hq, fun j q r hq hr => (hQ.out j q r hq hr).1⟩⟩
          have hvs : Aside0 (∀ (j : Nat) (r : SV), gs[j]? = some r → ∃ q, vs[j]? = some q ∧ j < k) := ⟨fun j r hr => by
            have hj := (List.getElem?_eq_some_iff.1 hr).1
            have h2 := hgl.out
            have h3 := hNA.out
            exact ⟨vs[j]'(by omega), List.getElem?_eq_getElem (by omega), by omega⟩⟩
          have hnot : Aside0 (∀ b, ((slv p).ownBlock = some b ∨ wr.heap.size ≤ b) → NotOf vs gs gv k b) := ⟨fun b hb => by
            refine ⟨fun h => ?_, fun j q hq hj h => ?_, fun j r hr h => ?_⟩
            · rcases hb with hb | hb
              · exact rowSv_ne hG.out (hP.out k p hpA.out) (by decide) b hb h
              · have := Kd.R_lt hG.out b h; omega
            · rcases hb with hb | hb
              · exact hDA.out k j p q b hpA.out hq (Ne.symm hj) hb h
              · have := (hP.out j q hq).lt b h; omega
            · obtain ⟨q, hq, hjk⟩ := hvs.out j r hr
              obtain ⟨⟨h1, _⟩, h2⟩ := hQ.out j q r hq hr
              rcases hb with hb | hb
              · rcases h2 with h2 | ⟨b', h2, h3⟩
                · exact hDA.out j k q p b hq hpA.out (by omega) (h2 ▸ h) hb
                · rw [h] at h2; injection h2 with h2; have := (hR1.out k p hpA.out).lt b hb; omega
              · have := h1.lt b h; omega⟩
          have hRp := Aside0.mk (hP.out k p hpA.out)
          obtain ⟨P, n, c⟩ := p
          simp only at hpn x0
          clear hp
          go_wp2
          go_loopw [7, 8] (fun v7 i8 w3 => ∃ (i : Nat) (g : SV), i8 = .int .i64 i ∧ v7 = .slice g.1 g.2.1 g.2.2 ∧ i ≤ 64 ∧ Aside0 (g.2.1 = n + i) ∧ Aside0 (RowM Kd.string 9 MTxt w3 k (n + i) g) ∧ Aside0 (AltM Kd.string 9 MTxt w3 k wr.heap.size n i c P g) ∧ Aside0 (BesideM Kd.string 9 36 MTxt w3 vs gs gv k) ∧ Aside0 (Chg (fun b => (slv (P, n, c)).ownBlock = some b) wr w3)) (fun _ i8 _ => 64 - (intOf i8).toNat)
          case atStart => exact ⟨0, (P, n, c), rfl, rfl, by omega, ⟨rfl⟩, hRp, ⟨.inl rfl⟩, hbes, ⟨Chg.refl _ _⟩⟩
          case round =>
            obtain ⟨i, g, rfl, rfl, hi, hgn, hX, hAlt, hBe, hC3⟩ := hrel
            have hC4 := Aside0.mk (hCall.out.trans hC3.out (fun b _ h => ⟨k, _, hpA.out, h⟩))
            have x1 : wr.cell? ⟨B, k, none⟩ = some (.slice P n c) := cell_keep hC4.out hBA.out (hHA.out k _ hpA.out)
            by_cases hil : i < 64
            · have hi0 : (0 : Int) ≤ i := by omega
              have hX0 := hX.out
              obtain ⟨xs, h1, h2⟩ := hX0
              have hxl : Aside0 (xs.length = n + i) := ⟨by rw [← h1.len]; exact hgn.out⟩
              have h1A := Aside0.mk h1
              have h2A := Aside0.mk h2
              clear h1 h2
              have hlen : Aside0 ((xs.length + 1) * 16 ≤ 140737488355328) := ⟨by rw [hxl.out]; omega⟩
              have hpn2 := Aside0.mk hpn
              go_wp2_with (first | (go_at_call 71; go_must (refine (kit_markText wr k (n + i) _ (by omega) (by omega) (by omega)).mono ?_); go_must (rintro e w4 ⟨rfl, hz4⟩); go_must (have hz5 := Aside0.mk hz4); go_must (have hO1 : Aside0 (Kd.R Kd.string 9 w4 0 (New (fun b => (slv g).ownBlock = some b) w4 w4) (.slice g.1 g.2.1 g.2.2) xs) := ⟨Kd.R_mono (h1A.out.chg hz5.out (fun _ _ h => h)) (fun b hb => .inl hb.symm)⟩); go_must (have hRef := Aside0.mk (Chg.refl (fun b => (slv g).ownBlock = some b) w4))) | (at_builtin; refine app1K Kd.string rfl (.tmp 50) (.tmp 60) rfl Try.underlying36 infoTxt rfl (by decide) (by decide) (mkTxt k (n + i)) rfl rfl rfl hO1 hRef hlen ?_; go_must (intro v1 w1 hr1 hc1 halt); go_must (obtain ⟨A1, n1, c1, rfl⟩ := R_sl hr1.out)))
              go_roundw
              case measure => first | (simp [intOf]; done) | (simp [intOf]; omega)
              case rel =>
                have hr2 := Kd.R_tight rfl hr1.out
                have hz51 : Chg (fun b => (slv g).ownBlock = some b) wr w1 := (hz5.out.mono (fun _ _ h => h.elim)).trans hc1.out (fun _ _ h => h)
                have hcw := hC3.out.trans hz51 (fun b hlt h => (hAlt.out.own b h).elim id (fun h => absurd hlt (by have := hC3.out.size; omega)))
                have hTw := hX.out.not (T := 5) (by decide)
                have hXz := hX.out.chg kpT hz5.out (fun _ _ h => h) (fun _ _ h => h.elim)
                have hTz := hXz.not (T := 5) (by decide)
                have hAz := hAlt.out.chg kpT hz5.out (fun _ _ h => h.elim) (fun _ _ h => h)
                have hBz := hBe.out.chg kpT hz5.out (fun _ _ h => h.elim) (fun _ h => h.elim)
                refine ⟨i + 1, (A1, n1, c1), by go_num, rfl, by omega, ⟨?_⟩, ⟨?_⟩, ⟨?_⟩, ⟨?_⟩, ⟨?_⟩⟩
                · have := (Kd.R_reads' hr1.out).1
                  simp only [List.length_append, List.length_singleton, hxl.out] at this
                  exact this
                · refine ⟨_, hr2, fun j y hj hy => ?_⟩
                  rcases Nat.lt_or_ge j (n + i) with hj2 | hj2
                  · rw [List.getElem?_append_left (by rw [hxl.out]; exact hj2)] at hy
                    exact kpT _ _ _ _ _ _ hz51 hTw (h2A.out j y hj2 hy)
                  · rw [List.getElem?_append_right (by rw [hxl.out]; exact hj2)] at hy
                    have hj0 : j = n + i := by omega
                    subst hj0
                    rw [hxl.out, Nat.sub_self] at hy
                    injection hy with hy
                    subst hy
                    rfl
                · exact hAz.step kpT hXz hgn.out (by decide) (Nat.le_trans hC3.out.size hz5.out.size) hRp.out.lt hc1.out (by have h0 := halt.out; rw [hxl.out] at h0; exact h0)
                · exact hBz.chg kpT hc1.out hTz (fun b hb => hnot.out b (hAlt.out.own b hb))
                · exact hcw
            · have hi64 : i = 64 := by omega
              subst hi64
              have hlen : Aside0 ((gs.length + 1) * 24 ≤ 140737488355328) := ⟨by rw [hgl.out]; omega⟩
              have hO1 : Aside0 (Kd.R kSl 36 wr 0 (New (fun b => (slv gv).ownBlock = some b) wr wr) (.slice gv.1 gv.2.1 gv.2.2) gs) := ⟨Kd.R_mono hBe.out.gr (fun b hb => .inl hb.symm)⟩
              have hRef := Aside0.mk (Chg.refl (fun b => (slv gv).ownBlock = some b) wr)
              go_wp2_with (at_builtin; refine app1 kSl rfl (.tmp 62) (.tmp 64) rfl Try.underlying62 infoApartTextsL rfl (by decide) (by decide) g rfl rfl (kSl_M _ _ _) hO1 hRef hlen ?_; go_must (intro v5 w5 hr5 hc5); go_must (obtain ⟨A5, n5, c5, rfl⟩ := R_sl hr5.out))
              go_roundw
              case measure => first | (simp [intOf]; done) | (simp [intOf]; omega)
              case rel =>
                have hgr := hBe.out.gr
                have hrp := hAlt.out.row hX.out hgn.out
                have hTv : ∀ b cs, (slv gv).ownBlock = some b → wr.heap[b]? ≠ some (.cells cs 5 (0, 0)) := fun b cs hb hc => by
                  obtain ⟨cs', h2⟩ := Kd.R_typed hgr b hb
                  rw [h2] at hc
                  injection hc with hc
                  injection hc with _ hc
                  exact absurd hc (by decide)
                have keep : ∀ {j m : Nat} {r : SV}, RowM Kd.string 9 MTxt wr j m r → RowM Kd.string 9 MTxt w5 j m r := fun h => h.chg kpT hc5.out (fun b hb h' => rowSv_ne hgr h (by decide) b hb h') hTv
                refine ⟨k + 1, gs ++ [g], (A5, n5, c5), by go_num, rfl, by omega, ⟨by rw [List.length_append, hgl.out]; rfl⟩, ⟨Kd.R_tight rfl hr5.out⟩, ⟨fun j q hq => ?_⟩, ⟨fun j q r hq hr => ?_⟩, ⟨disj_snoc hDg.out (fun b hb => (hnot.out b (hAlt.out.own b hb)).qs)⟩, ⟨fun b hb => ?_⟩, ⟨(hCw.out.trans hC3.out (fun b _ h => ⟨k, _, hpA.out, h⟩)).trans hc5.out (fun b hlt h => ?_)⟩⟩
                · by_cases hj : j = k
                  · subst hj
                    rw [hpA.out] at hq
                    injection hq with hq
                    subst hq
                    exact keep hrp
                  · exact keep (hBe.out.ps j q hq hj)
                · rcases Nat.lt_or_ge j gs.length with hj | hj
                  · rw [List.getElem?_append_left hj] at hr
                    exact ⟨⟨keep (hBe.out.qs j q r hq hr).1, (hBe.out.qs j q r hq hr).2⟩, (hQ.out j q r hq hr).2⟩
                  · rw [List.getElem?_append_right hj] at hr
                    have hj0 : j - gs.length = 0 := by
                      have := (List.getElem?_eq_some_iff.1 hr).1
                      simp at this
                      omega
                    rw [hj0] at hr
                    simp at hr
                    subst hr
                    have hjk : j = k := by have := hgl.out; omega
                    subst hjk
                    rw [hpA.out] at hq
                    injection hq with hq
                    subst hq
                    exact ⟨⟨keep hX.out, hgn.out⟩, hAlt.out.news hCw.out.size⟩
                · rcases hr5.out.1 b hb with h | h
                  · exact hGn.out b h
                  · exact Nat.le_trans (Nat.le_trans hCw.out.size hC3.out.size) h.1
                · have := hGn.out b h; omega
        · have hkN : N = k := by omega
          subst hkN
          have hC9 := Aside0.mk (hCh.out.trans hCw.out (fun _ _ h => h))
          obtain ⟨gA, gn, gc0⟩ := gv
          have hgn : gn = N := Eq.trans (Kd.R_reads' hG.out).1 hgl.out
          subst hgn
          simp only
          go_wp2
          go_loopw [9, 10, 11] (fun i9 _ _ w4 => ∃ k : Nat, i9 = .int .i64 k ∧ k ≤ gn ∧ Aside0 (Chg (fun _ => False) wr w4)) (fun i9 _ _ _ => gn - (intOf i9).toNat)
          case atStart => exact ⟨0, rfl, by omega, ⟨Chg.refl _ _⟩⟩
          case round =>
            obtain ⟨k, rfl, hk, hwe⟩ := hrel
            have hC8 := Aside0.mk (hC9.out.trans hwe.out (fun _ _ h => h.elim))
            by_cases hlt : k < gn
            · skip
              obtain ⟨p, hp⟩ : ∃ p, vs[k]? = some p := ⟨vs[k]'(by have := hNA.out; omega), List.getElem?_eq_getElem (by have := hNA.out; omega)⟩
              obtain ⟨hpn, _⟩ := hrA.out k p hp
              obtain rfl := hAA.out (by omega)
              have x0 := Aside0.mk (cell_keep hC8.out hBA.out (hHA.out k p hp))
              have hG2 := R_chg hG.out hwe.out (fun _ _ _ h => h)
              obtain ⟨gq, gc, ge, _⟩ := Kd.R_form hG2 (by rw [hgl.out]; omega)
              have hgC := R_Cs hG2
              unfold slv at ge
              injection ge with ge1 ge2 ge3
              subst ge1
              clear ge2 ge3
              obtain ⟨ad, q, e1, hq, y0⟩ := sl_at hgC k hlt
              injection e1 with e1
              subst e1
              have y1 : Aside0 (wr.cell? ⟨gq, k, none⟩ = some (.slice q.1 q.2.1 q.2.2)) := ⟨by rw [add_plain] at y0; exact y0⟩
              obtain ⟨⟨hqr, hql⟩, _⟩ := hQ.out k p q hp hq
              replace hqr := Aside0.mk (hqr.chg kpT hwe.out (fun _ _ h => h) (fun _ _ h => h.elim))
              have hpr := Aside0.mk ((hP.out k p hp).chg kpT hwe.out (fun _ _ h => h) (fun _ _ h => h.elim))
              have hk0 : (0 : Int) ≤ k := by omega
              obtain ⟨Q, qn, qc⟩ := q
              obtain ⟨P, n, c⟩ := p
              simp only at hql hpn
              subst hql
              clear y0 hp hq hgC hG2
              have y2 : wr.cell? ⟨gq, k, none⟩ = some (.slice Q (n + 64) qc) := y1.out
              have hk1 : (k : Int) < gn := by omega
              go_wp2
              clear y2
              go_loopw [10, 11] (fun i10 _ w5 => ∃ i : Nat, i10 = .int .i64 i ∧ i ≤ n + 64 ∧ Aside0 (Chg (fun _ => False) wr w5)) (fun i10 _ _ => n + 64 - (intOf i10).toNat)
              case atStart => exact ⟨0, rfl, by omega, ⟨Chg.refl _ _⟩⟩
              case round =>
                obtain ⟨i, rfl, hi, hwe2⟩ := hrel
                have hwe3 := Aside0.mk (hwe.out.trans hwe2.out (fun _ _ h => h))
                have y2 : wr.cell? ⟨gq, k, none⟩ = some (.slice Q (n + 64) qc) := cell_keep hwe2.out (fun h => h) y1.out
                by_cases hil : i < n + 64
                · have hi0 : (0 : Int) ≤ i := by omega
                  have hi1 : (i : Int) < (n : Int) + 64 := by omega
                  go_upto_region 25 with (go_at_call 71; go_must (refine (kit_markText wr k i _ (by omega) (by omega) (by omega)).mono ?_); go_must (rintro e w6 ⟨rfl, hz6⟩); go_must (have hz7 := Aside0.mk (hwe2.out.trans hz6 (fun _ _ h => h))))
                  have hwe4 := Aside0.mk (hwe.out.trans hz7.out (fun _ _ h => h))
                  have y3 : w6.cell? ⟨gq, k, none⟩ = some (.slice Q (n + 64) qc) := cell_keep hz7.out (fun h => h) y1.out
                  have x3 : w6.cell? ⟨B, k, none⟩ = some (.slice P n c) := cell_keep hz7.out (fun h => h) x0.out
                  have hq6 := hqr.out.chg kpT hz7.out (fun _ _ h => h) (fun _ _ h => h.elim)
                  obtain ⟨gg, e3, _⟩ := hq6.head (by simp only; omega)
                  simp only at e3
                  subst e3
                  have z0 := cell_Txt hq6 hil hil
                  clear y2 hq6
                  by_cases hin : i < n
                  · have hp6 := hpr.out.chg kpT hz7.out (fun _ _ h => h) (fun _ _ h => h.elim)
                    obtain ⟨pg, e4, _⟩ := hp6.head (by simp only; omega)
                    simp only at e4
                    subst e4
                    have v0 := cell_Txt hp6 hin hin
                    clear hp6
                    have hin2 : (i : Int) < (n : Int) := by omega
                    go_wp2
                    go_roundw
                    case measure => first | (simp [intOf]; done) | (simp [intOf]; omega)
                    case rel => exact ⟨i + 1, by go_num, by omega, hz7⟩
                  · have hin2 : ¬ (i : Int) < (n : Int) := by omega
                    go_wp2
                    go_roundw
                    case measure => first | (simp [intOf]; done) | (simp [intOf]; omega)
                    case rel => exact ⟨i + 1, by go_num, by omega, hz7⟩
                · have hi64 : i = n + 64 := by omega
                  subst hi64
                  go_wp2
                  go_roundw
                  case measure => first | (simp [intOf]; done) | (simp [intOf]; omega)
                  case rel => exact ⟨k + 1, by go_num, by omega, hwe3⟩
            · have hkN : k = gn := by omega
              subst hkN
              go_wp2
              go_ret
              exact ⟨rfl, hC8.out⟩
end Go.Proofs.Ytdoghjmanogelaa.K
