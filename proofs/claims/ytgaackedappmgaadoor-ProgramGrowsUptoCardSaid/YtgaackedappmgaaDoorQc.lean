import Derived.Test.YtgaackedappmgaaDoorQb
import Derived.IntWalk
import Derived.BigQuiet
namespace Go.Proofs.YtgaackedappmgaaDoor.K
open Go.RowKit Go.Proofs.YtgaackedappmgaaDoorW.PrintWords Go.Proofs.YtgaackedappmgaaDoorW.PrintLast Go.Proofs.YtgaackedappmgaaDoorW.PrintMore
set_option linter.unusedVariables false
set_option linter.unusedSimpArgs false
set_option maxRecDepth 100000
theorem ba_beqQ (a b : ByteArray) : (a.toList == b.toList) = decide (a = b) := by
  rw [ByteArray.toList_eq, ByteArray.toList_eq]
  by_cases h : a = b
  · subst h; simp
  · have h2 : a.data.toList ≠ b.data.toList := fun e => h (ByteArray.ext (Array.toList_inj.1 e))
    rw [decide_eq_false h]; simpa using fun e => h (ByteArray.ext e)
def findN : List QR → ByteArray → Int → Int × Bool
  | [], _, _ => (0, false)
  | r :: rs, s, i => if r.name = s then (i, true) else findN rs s (i + 1)
theorem findN_hit {s : ByteArray} : ∀ {rs : List QR} {k : Nat} {r : QR} (i : Int), rs[k]? = some r → r.name = s → (∀ (j : Nat) (q : QR), j < k → rs[j]? = some q → q.name ≠ s) → findN rs s i = (i + k, true)
  | [], _, _, _, h, _, _ => by simp at h
  | a :: rs, 0, r, i, h, hs, _ => by
    simp at h
    subst h
    simp [findN, hs]
  | a :: rs, k + 1, r, i, h, hs, hb => by
    have ha := hb 0 a (by omega) rfl
    unfold findN
    rw [if_neg ha, findN_hit (i + 1) (k := k) (by simpa using h) hs (fun j q hj hq => hb (j + 1) q (by omega) (by simpa using hq))]
    simp
    omega
theorem findN_miss {s : ByteArray} : ∀ {rs : List QR} (i : Int), (∀ (j : Nat) (r : QR), rs[j]? = some r → r.name ≠ s) → findN rs s i = (0, false)
  | [], _, _ => rfl
  | a :: rs, i, hb => by
    unfold findN
    rw [if_neg (hb 0 a rfl), findN_miss (i + 1) (fun j q hq => hb (j + 1) q (by simpa using hq))]
theorem ref_FindQ (w : World) (cA fA : Option Addr) (nc cc nf fc : Nat) (rs : List QR) (s : ByteArray) (hC : Kd.C kQR w fA nf rs) :
    Calls Tryd.prog 19 #[.agg #[.slice cA nc cc, .slice fA nf fc], .string s] w fun e w' => e = .returned (.tuple #[.int .i64 (findN rs s 0).1, .bool (findN rs s 0).2]) ∧ Chg (fun _ => False) w w' := by
  have e0 := hC.1
  have hb := hC.2.1
  subst e0
  have hCA := Aside0.mk hC
  clear hC
  go_enter Tryd.func19, Tryd.ntmps19
  go_wp2
  generalize hW : World.alloc w _ = W0
  have hbx : W0.heap[w.heap.size]? = some (.cells #[.slice cA nc cc, .slice fA rs.length fc] 25 (0, 0)) := by rw [← hW]; exact heap_alloc_new w _
  have hc0 : Aside0 (Chg (fun _ => False) w W0) := ⟨by rw [← hW]; exact (Chg.refl _ w).alloc _⟩
  obtain ⟨p0, p1⟩ : W0.cell? ⟨w.heap.size, 0, none⟩ = some (.slice cA nc cc) ∧ W0.cell? ⟨w.heap.size, 1, none⟩ = some (.slice fA rs.length fc) := ⟨blk_cell hbx 0, blk_cell hbx 1⟩
  replace hbx := Aside0.mk hbx
  clear hW
  (try go_wp2)
  clear p0 p1
  go_loopw [6] (fun i wr => ∃ k : Nat, i = .int .i64 k ∧ k ≤ rs.length ∧ Aside0 (∀ (j : Nat) (r : QR), j < k → rs[j]? = some r → r.name ≠ s) ∧ Aside0 (Chg (fun _ => False) W0 wr)) (fun i _ => rs.length - (intOf i).toNat)
  case atStart => exact ⟨0, rfl, by omega, ⟨fun j r hj => by omega⟩, ⟨Chg.refl _ _⟩⟩
  case round =>
    obtain ⟨k, rfl, hk, hbef, hCh⟩ := hrel
    have hbr := hCh.out.blk hbx.out (fun h => h)
    obtain ⟨p0, p1⟩ : wr.cell? ⟨w.heap.size, 0, none⟩ = some (.slice cA nc cc) ∧ wr.cell? ⟨w.heap.size, 1, none⟩ = some (.slice fA rs.length fc) := ⟨blk_cell hbr 0, blk_cell hbr 1⟩
    clear hbr
    by_cases hlt : k < rs.length
    · have hk0 : (0 : Int) ≤ k := by omega
      have hk1 : (k : Int) < rs.length := by omega
      obtain ⟨ad, r, e1, e2, x0, x1, x2, x3, x4⟩ := raw_at (C_chg hCA.out ((hc0.out.trans hCh.out (fun _ _ h => h)).below (fun _ _ h => h))) k hlt
      subst e1
      have e2A := Aside0.mk e2
      by_cases hhit : r.name = s
      · have hE := Aside0.mk (findN_hit (s := s) 0 e2 hhit hbef.out)
        rw [hhit] at x0
        clear e2 hhit
        go_wp2
        go_ret2
        rw [hE.out]
        exact ⟨by simp, by repeat (first | exact hc0.out.trans hCh.out (fun _ _ h => h) | apply Chg.drewN | apply Chg.alloc)⟩
      · have hne : (r.name.toList == s.toList) = false := by rw [ba_beqQ]; simpa using hhit
        have hbef2 : Aside0 (∀ (j : Nat) (q : QR), j < k + 1 → rs[j]? = some q → q.name ≠ s) := ⟨fun j q hj hq => by
          rcases Nat.lt_or_ge j k with h | h
          · exact hbef.out j q h hq
          · obtain rfl : j = k := by omega
            rw [e2A.out] at hq
            injection hq with hq
            rw [← hq]; exact hhit⟩
        clear e2 hhit
        go_wp2
        go_roundw
        case measure => first | (simp [intOf]; done) | (simp [intOf]; omega)
        case rel => exact ⟨k + 1, by go_num, by omega, hbef2, ⟨by repeat (first | exact hCh.out | apply Chg.drewN | apply Chg.alloc)⟩⟩
    · obtain rfl : k = rs.length := by omega
      have hE := Aside0.mk (findN_miss (s := s) 0 (fun j r h => hbef.out j r (List.getElem?_eq_some_iff.1 h).1 h))
      go_wp2
      go_ret2
      rw [hE.out]
      exact ⟨rfl, hc0.out.trans hCh.out (fun _ _ h => h)⟩
