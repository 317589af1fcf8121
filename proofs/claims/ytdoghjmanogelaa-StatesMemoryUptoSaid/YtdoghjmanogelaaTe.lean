import Derived.Test.YtdoghjmanogelaaTd
import Derived.IntWalk
import Derived.BigQuiet
import Derived.Deep.RegionHeld3
namespace Go.Proofs.Ytdoghjmanogelaa.K
open Go.RowKit Go.Proofs.YtdoghjmanogelaaW.PrintWords Go.Proofs.YtdoghjmanogelaaW.PrintLast Go.Proofs.YtdoghjmanogelaaW.PrintMore
set_option linter.unusedVariables false
set_option linter.unusedSimpArgs false
set_option maxRecDepth 100000
theorem Turn.trans {w w1 w' : World} {lo : Nat} {ts : List TypeId} (h : Turn w w1 lo ts) (h1 : Turn w1 w' lo ts) : Turn w w' lo ts := by
  obtain ⟨S1, hc1, hl1, hS1⟩ := h
  obtain ⟨S2, hc2, hl2, hS2⟩ := h1
  refine ⟨fun b => S1 b ∨ (S2 b ∧ b < w.heap.size), (hc1.mono (fun _ _ h => Or.inl h)).trans hc2 (fun b hb h => Or.inr ⟨h, hb⟩), fun b hb => hb.elim (hl1 b) (fun h => hl2 b h.1), fun b cs t hb he => ?_⟩
  rcases hb with hb | ⟨hb, hs⟩
  · exact hS1 b cs t hb he
  · by_cases h0 : S1 b
    · exact hS1 b cs t h0 he
    · exact hS2 b cs t hb (by rw [hc1.block b hs h0]; exact he)
theorem own_type {α : Type} {kd : Kd α} {e t : TypeId} {w : World} {lo j : Nat} {v : SV} {xs : List α} {cs : Array Value} (h : Ow kd e w lo v xs) (hj : (svl v).ownBlock = some j) (hc : w.heap[j]? = some (.cells cs t (0, 0))) : t = e := by
  obtain ⟨cu, ec⟩ := Kd.R_typed h.1 j hj
  rw [hc] at ec
  injection ec with ec
  injection ec with _ ec
def ValsPost (w : World) (lo g : Nat) (tA oA bA : Option Addr) (tc oc bc : Nat) (s : QS) (r : List QV × Bk) (va vb : SV) (e : Ending) (w' : World) : Prop := ∃ vt vo v : SV, e = .returned (svl v) ∧ BkR w' lo g tA oA bA tc oc bc s r.2 vt vo va vb ∧ Turn w w' lo [3, 114] ∧ Ow kQV 56 w' w.heap.size v r.1
set_option maxHeartbeats 4000000
theorem book_values (w0 w : World) (g : Nat) (tA oA bA : Option Addr) (tc oc bc : Nat) (s : QS) (b : Bk) (vt vo va vb : SV) (ros : List RO) (rbs : List RB) (L : List (List RF)) (A : Option Addr) (n cap : Nat) (l : List QV) (h0 : Chg (fun _ => False) w0 w) (h : BkR w w0.heap.size g tA oA bA tc oc bc s b vt vo va vb) (hok : BkOk s b) (hV : SView w0 tA oA bA s ros rbs L) (hn : s.texts.length ≤ 1048576) (hno : s.objs.length ≤ 1048576) (hC : Kd.C kQV w0 A n l) (hnn : ∀ v ∈ l, v.n ≤ 9223372036854775807) (hln : l.length ≤ 1048576) :
    Calls Try.prog 56 #[.pointer (some ⟨g, 0, none⟩), .slice A n cap] w (ValsPost w w0.heap.size g tA oA bA tc oc bc s (mapS (numV s) b l) va vb) := by
  have e0 := hC.1
  subst e0
  have hCA := Aside0.mk hC
  have hVA := Aside0.mk hV
  have hBA := Aside0.mk h
  have h0A := Aside0.mk h0
  have hnA := Aside0.mk hnn
  have hoA := Aside0.mk hok
  clear hC hV h h0 hnn hok
  go_enter Try.func56, Try.ntmps56
  go_wp2
  go_loopw [5, 6] (fun v i wr => ∃ (k : Nat) (A2 : Option Addr) (n2 c2 : Nat) (vt2 vo2 : SV), v = .slice A2 n2 c2 ∧ i = .int .i64 k ∧ k ≤ l.length ∧ Aside0 (Ow kQV 56 wr w.heap.size (A2, n2, c2) (mapS (numV s) b (l.take k)).1) ∧ Aside0 (BkR wr w0.heap.size g tA oA bA tc oc bc s (mapS (numV s) b (l.take k)).2 vt2 vo2 va vb) ∧ Aside0 (Turn w wr w0.heap.size [3, 114])) (fun _ i _ => l.length - (intOf i).toNat)
  case atStart => exact ⟨0, none, 0, 0, vt, vo, rfl, rfl, by omega, ⟨Ow.nil _ _ _ _⟩, hBA, ⟨Turn.refl _ _ _⟩⟩
  case round =>
    obtain ⟨k, A2, n2, c2, vt2, vo2, rfl, rfl, hk, hO, hB, hT⟩ := hrel
    by_cases hlt : k < l.length
    · have hC0 : Aside0 (Chg (fun _ => False) w0 wr) := ⟨hT.out.chg h0A.out⟩
      obtain ⟨ad, vk, vn, e1, e2, x0, x1⟩ := kQV_at (C_chg hCA.out (hC0.out.below (fun _ _ h => h))) k hlt
      subst e1
      have hk0 : (0 : Int) ≤ k := by omega
      have hk1 : (k : Int) < l.length := by omega
      have ht := Aside0.mk (mapS_take (f := numV s) (b := b) e2)
      have hBok : Aside0 (BkOk s (mapS (numV s) b (l.take k)).2) := ⟨mapS_inv (P := BkOk s) (fun b v h => numV_ok h) _ b hoA.out⟩
      have hvn : Aside0 ((⟨vk, vn⟩ : QV).n ≤ 9223372036854775807) := ⟨hnA.out _ (List.mem_of_getElem? e2)⟩
      have hl : Aside0 (((mapS (numV s) b (l.take k)).1.length + 1) * 16 ≤ 140737488355328) := ⟨by rw [mapS_len, List.length_take]; omega⟩
      clear e2
      generalize (mapS (numV s) b (l.take k)).2 = B at hB hBok ht
      generalize (mapS (numV s) b (l.take k)).1 = xs at hO ht hl
      go_wp2_with (first | (go_at_call 85; go_must (refine (book_value _ w0.heap.size g tA oA bA tc oc bc s B vt2 vo2 va vb ros rbs L ⟨vk, vn⟩ hB.out hBok.out (hVA.out.below (hC0.out.below (fun _ _ h => h))) hn hno hvn.out).mono ?_); go_must (rintro e w1 ⟨vt3, vo3, rfl, hB1, hT1⟩); go_must (replace hB1 := Aside0.mk hB1); go_must (replace hT1 := Aside0.mk hT1); go_must (have hO1 := Aside0.mk ((hO.out.turn hT1.out (by decide)).chg ((Chg.refl (fun _ => False) w1).alloc (.cells #[.int .i64 (numV s B ⟨vk, vn⟩).1.kind, .int .i64 (numV s B ⟨vk, vn⟩).1.n] 56 (0, 0))) (fun _ _ h => h))); go_must (have hRd := own_new0 hO1.out.1); go_must (have hCd : Aside0 (Chg (fun b => (svl (A2, n2, c2)).ownBlock = some b) (w1.alloc (.cells #[.int .i64 (numV s B ⟨vk, vn⟩).1.kind, .int .i64 (numV s B ⟨vk, vn⟩).1.n] 56 (0, 0))) (w1.alloc (.cells #[.int .i64 (numV s B ⟨vk, vn⟩).1.kind, .int .i64 (numV s B ⟨vk, vn⟩).1.n] 56 (0, 0)))) := ⟨Chg.refl _ _⟩); go_must (have hz1 : Aside0 (Chg (fun _ => False) w1 (w1.alloc (.cells #[.int .i64 (numV s B ⟨vk, vn⟩).1.kind, .int .i64 (numV s B ⟨vk, vn⟩).1.n] 56 (0, 0)))) := ⟨(Chg.refl (fun _ => False) w1).alloc _⟩)) | (at_builtin; go_must (refine app1H kQV rfl (.tmp 20) (.tmp 22) rfl Try.underlying52 infoQV rfl (by decide) (by decide) (numV s B ⟨vk, vn⟩).1 rfl rfl (by simp) (kQV_M _ _ _ _) hRd hCd hl ?_); go_must (intro v1 w2 hr2 hc2); go_must (obtain ⟨A4, n4, c4, rfl⟩ := R_sl hr2.out)))
      go_roundw
      case measure => first | (simp [intOf]; done) | (simp [intOf]; omega)
      case rel =>
        have hsz := hT.out.size
        have hsz1 := hT1.out.size
        have hO4 := Aside0.mk (Ow.app (v1 := (A4, n4, c4)) rfl hO1.out hr2.out (Nat.le_trans (Nat.le_trans hsz hsz1) hz1.out.size))
        refine ⟨k + 1, A4, n4, c4, vt3, vo3, rfl, by go_num, by omega, ⟨by rw [ht.out]; exact hO4.out⟩, ⟨by rw [ht.out]; exact (hB1.out.new hz1.out).hit hc2.out (fun j cs t hj hc => by rw [own_type hO1.out hj hc]; decide)⟩, ⟨((hT.out.trans hT1.out).then_new hz1.out).then_own hc2.out (fun j hj => hO1.out.2 j hj)⟩⟩
    · obtain rfl : k = l.length := by omega
      go_wp2
      go_ret
      have h1 := hB.out
      have h2 := hO.out
      rw [List.take_length] at h1 h2
      exact ⟨vt2, vo2, (A2, n2, c2), rfl, h1, hT.out, h2⟩
end Go.Proofs.Ytdoghjmanogelaa.K
