import Derived.Test.YtdoghjmanogelaaQb
import Derived.Test.YtdoghjmanogelaaSa
import Derived.IntWalk
import Derived.BigQuiet
import Derived.Test.YtdoghjmanogelaaQx
import Derived.Laws.Rows
import Derived.Laws.Tables
namespace Go.Proofs.Ytdoghjmanogelaa.K
open Go.RowKit Go.Proofs.YtdoghjmanogelaaW.PrintWords Go.Proofs.YtdoghjmanogelaaW.PrintLast Go.Proofs.YtdoghjmanogelaaW.PrintMore
set_option linter.unusedVariables false
set_option linter.unusedSimpArgs false
set_option maxRecDepth 100000
theorem infoQV : (Try.prog.info? 56).map (fun i => (i.zero, i.size, i.bytes)) = some (some (.agg #[.int .i64 0, .int .i64 0]), 2, 16) := by kernel_rfl
theorem kQV_at {w : World} {A : Option Addr} {n : Nat} {l : List QV} (h : Kd.C kQV w A n l) (i : Nat) (h1 : i < n) : ∃ ad kind1 n1, A = some ad ∧ l[i]? = some ⟨kind1, n1⟩ ∧ w.cell? (ad.add (i * 2)) = some (.int .i64 kind1) ∧ w.cell? ⟨(ad.add (i * 2)).block, (ad.add (i * 2)).off + 1, none⟩ = some (.int .i64 n1) := by
  obtain ⟨e1, e2, e3⟩ := h
  obtain ⟨ad, ea, hc⟩ := e3 (by omega)
  have hi : i < l.length := by omega
  obtain ⟨cs, _, hk, hcell⟩ := hc i _ (List.getElem?_eq_getElem hi)
  rw [kQV_K] at hk
  subst hk
  have g1 := hcell 1 _ rfl
  have e5 : kQV.sz = 2 := rfl
  rw [e5] at g1
  rw [← add_add] at g1
  exact ⟨ad, l[i].kind, l[i].n, ea, List.getElem?_eq_getElem hi, hcell 0 _ rfl, g1⟩
def kQVMarks (k : Nat) : List QV := (List.range k).map (fun i : Nat => (⟨(-9), Int.ofNat i⟩ : QV))
theorem C_one {α : Type} {d : Kd α} {enc : α → Value} (hK : ∀ w x cs, d.K w x cs → cs = [enc x]) (hsz : d.sz = 1) {w : World} {A : Option Addr} {n : Nat} {l : List α} (h : d.C w A n l) (i : Nat) (h1 : i < n) : ∃ ad x, A = some ad ∧ l[i]? = some x ∧ w.cell? (ad.add i) = some (enc x) := by
  obtain ⟨e1, e2, e3⟩ := h
  obtain ⟨ad, ea, hc⟩ := e3 (by omega)
  have hi : i < l.length := by omega
  obtain ⟨cs, _, hk, hcell⟩ := hc i _ (List.getElem?_eq_getElem hi)
  have hk := hK _ _ _ hk
  subst hk
  have g := hcell 0 _ rfl
  rw [hsz, Nat.mul_one, Nat.add_zero] at g
  exact ⟨ad, l[i], ea, List.getElem?_eq_getElem hi, g⟩
theorem i64_at {w : World} {A : Option Addr} {n : Nat} {l : List Int} (h : Kd.C (Kd.int .i64) w A n l) (i : Nat) (h1 : i < n) : ∃ ad x, A = some ad ∧ l[i]? = some x ∧ w.cell? (ad.add i) = some (.int .i64 x) := C_one (enc := Value.int .i64) (fun _ _ _ h => h) rfl h i h1
theorem str_at {w : World} {A : Option Addr} {n : Nat} {l : List ByteArray} (h : Kd.C Kd.string w A n l) (i : Nat) (h1 : i < n) : ∃ ad x, A = some ad ∧ l[i]? = some x ∧ w.cell? (ad.add i) = some (.string x) := C_one (enc := Value.string) (fun _ _ _ h => h) rfl h i h1
theorem infoI64 : (Try.prog.info? 2).map (fun i => (i.zero, i.size, i.bytes)) = some (some (.int .i64 0), 1, 8) := by kernel_rfl
theorem infoStr : (Try.prog.info? 9).map (fun i => (i.zero, i.size, i.bytes)) = some (some (.string ⟨#[]⟩), 1, 16) := by kernel_rfl
theorem ref_CopyValues (w : World) (A : Option Addr) (n cap : Nat) (l : List QV) (hC : Kd.C kQV w A n l) (hn : l.length ≤ 1048576) :
    Calls Try.prog 66 #[.slice A n cap] w fun e w' => ∃ v, e = .returned v ∧ Kd.R kQV 56 w' 0 (New (fun _ => False) w w') v l ∧ Chg (fun _ => False) w w' := by
  have e0 := hC.1
  subst e0
  have hCA := Aside0.mk hC
  clear hC
  go_enter Try.func66, Try.ntmps66
  go_wp2
  go_loopw [3, 4] (fun v i wr => ∃ k : Nat, i = .int .i64 k ∧ k ≤ l.length ∧ Aside0 (Kd.R kQV 56 wr 0 (New (fun _ => False) w wr) v (l.take k)) ∧ Aside0 (Chg (fun _ => False) w wr)) (fun _ i _ => l.length - (intOf i).toNat)
  case atStart => exact ⟨0, rfl, by omega, ⟨Kd.R_nil _ _ _ _ _⟩, ⟨Chg.refl _ _⟩⟩
  case round =>
    obtain ⟨k, rfl, hk, hR, hCh⟩ := hrel
    by_cases hlt : k < l.length
    · obtain ⟨ad, vk, vn, e1, e2, x0, x1⟩ := kQV_at (C_chg hCA.out (hCh.out.below (fun _ _ h => h))) k hlt
      subst e1
      have hk0 : (0 : Int) ≤ k := by omega
      have hk1 : (k : Int) < l.length := by omega
      have ht : Aside0 (l.take (k + 1) = l.take k ++ [⟨vk, vn⟩]) := ⟨by rw [List.take_succ_eq_append_getElem hlt]; rw [List.getElem?_eq_getElem hlt] at e2; injection e2 with e2; rw [e2]⟩
      clear e2
      have hl : Aside0 (((l.take k).length + 1) * 16 ≤ 140737488355328) := ⟨by rw [List.length_take]; omega⟩
      go_wp2_with (at_builtin; go_must (refine app1 kQV rfl (.tmp 11) (.tmp 16) rfl Try.underlying52 infoQV rfl (by decide) (by decide) ⟨vk, vn⟩ rfl rfl (kQV_M _ _ _ _) hR hCh hl ?_); go_must (intro v1 w1 hr1 hc1))
      go_roundw
      case measure => first | (simp [intOf]; done) | (simp [intOf]; omega)
      case rel => exact ⟨k + 1, by go_num, by omega, ⟨by rw [ht.out]; exact hr1.out⟩, hc1⟩
    · obtain rfl : k = l.length := by omega
      go_wp2
      go_ret
      have h := hR.out
      rw [List.take_length] at h
      exact ⟨_, rfl, h, hCh.out⟩
theorem ref_CopyLongs (w : World) (A : Option Addr) (n cap : Nat) (l : List Int) (hC : Kd.C (Kd.int .i64) w A n l) (hn : l.length ≤ 1048576) :
    Calls Try.prog 67 #[.slice A n cap] w fun e w' => ∃ v, e = .returned v ∧ Kd.R (Kd.int .i64) 2 w' 0 (New (fun _ => False) w w') v l ∧ Chg (fun _ => False) w w' := by
  have e0 := hC.1
  subst e0
  have hCA := Aside0.mk hC
  clear hC
  go_enter Try.func67, Try.ntmps67
  go_wp2
  go_loopw [3, 4] (fun v i wr => ∃ k : Nat, i = .int .i64 k ∧ k ≤ l.length ∧ Aside0 (Kd.R (Kd.int .i64) 2 wr 0 (New (fun _ => False) w wr) v (l.take k)) ∧ Aside0 (Chg (fun _ => False) w wr)) (fun _ i _ => l.length - (intOf i).toNat)
  case atStart => exact ⟨0, rfl, by omega, ⟨Kd.R_nil _ _ _ _ _⟩, ⟨Chg.refl _ _⟩⟩
  case round =>
    obtain ⟨k, rfl, hk, hR, hCh⟩ := hrel
    by_cases hlt : k < l.length
    · obtain ⟨ad, x, e1, e2, x0⟩ := i64_at (C_chg hCA.out (hCh.out.below (fun _ _ h => h))) k hlt
      subst e1
      have hk0 : (0 : Int) ≤ k := by omega
      have hk1 : (k : Int) < l.length := by omega
      have ht : Aside0 (l.take (k + 1) = l.take k ++ [x]) := ⟨by rw [List.take_succ_eq_append_getElem hlt]; rw [List.getElem?_eq_getElem hlt] at e2; injection e2 with e2; rw [e2]⟩
      clear e2
      have hl : Aside0 (((l.take k).length + 1) * 8 ≤ 140737488355328) := ⟨by rw [List.length_take]; omega⟩
      go_wp2_with (at_builtin; go_must (refine app1 (Kd.int .i64) rfl (.tmp 11) (.tmp 16) rfl Try.underlying57 infoI64 rfl (by decide) (by decide) x rfl rfl rfl hR hCh hl ?_); go_must (intro v1 w1 hr1 hc1))
      go_roundw
      case measure => first | (simp [intOf]; done) | (simp [intOf]; omega)
      case rel => exact ⟨k + 1, by go_num, by omega, ⟨by rw [ht.out]; exact hr1.out⟩, hc1⟩
    · obtain rfl : k = l.length := by omega
      go_wp2
      go_ret
      have h := hR.out
      rw [List.take_length] at h
      exact ⟨_, rfl, h, hCh.out⟩
theorem ref_CopyTexts (w : World) (A : Option Addr) (n cap : Nat) (l : List ByteArray) (hC : Kd.C Kd.string w A n l) (hn : l.length ≤ 1048576) :
    Calls Try.prog 68 #[.slice A n cap] w fun e w' => ∃ v, e = .returned v ∧ Kd.R Kd.string 9 w' 0 (New (fun _ => False) w w') v l ∧ Chg (fun _ => False) w w' := by
  have e0 := hC.1
  subst e0
  have hCA := Aside0.mk hC
  clear hC
  go_enter Try.func68, Try.ntmps68
  go_wp2
  go_loopw [3, 4] (fun v i wr => ∃ k : Nat, i = .int .i64 k ∧ k ≤ l.length ∧ Aside0 (Kd.R Kd.string 9 wr 0 (New (fun _ => False) w wr) v (l.take k)) ∧ Aside0 (Chg (fun _ => False) w wr)) (fun _ i _ => l.length - (intOf i).toNat)
  case atStart => exact ⟨0, rfl, by omega, ⟨Kd.R_nil _ _ _ _ _⟩, ⟨Chg.refl _ _⟩⟩
  case round =>
    obtain ⟨k, rfl, hk, hR, hCh⟩ := hrel
    by_cases hlt : k < l.length
    · obtain ⟨ad, x, e1, e2, x0⟩ := str_at (C_chg hCA.out (hCh.out.below (fun _ _ h => h))) k hlt
      subst e1
      have hk0 : (0 : Int) ≤ k := by omega
      have hk1 : (k : Int) < l.length := by omega
      have ht : Aside0 (l.take (k + 1) = l.take k ++ [x]) := ⟨by rw [List.take_succ_eq_append_getElem hlt]; rw [List.getElem?_eq_getElem hlt] at e2; injection e2 with e2; rw [e2]⟩
      clear e2
      have hl : Aside0 (((l.take k).length + 1) * 16 ≤ 140737488355328) := ⟨by rw [List.length_take]; omega⟩
      go_wp2_with (at_builtin; go_must (refine app1 Kd.string rfl (.tmp 11) (.tmp 16) rfl Try.underlying36 infoStr rfl (by decide) (by decide) x rfl rfl rfl hR hCh hl ?_); go_must (intro v1 w1 hr1 hc1))
      go_roundw
      case measure => first | (simp [intOf]; done) | (simp [intOf]; omega)
      case rel => exact ⟨k + 1, by go_num, by omega, ⟨by rw [ht.out]; exact hr1.out⟩, hc1⟩
    · obtain rfl : k = l.length := by omega
      go_wp2
      go_ret
      have h := hR.out
      rw [List.take_length] at h
      exact ⟨_, rfl, h, hCh.out⟩
end Go.Proofs.Ytdoghjmanogelaa.K

namespace Go.Proofs.Ytdoghjmanogelaa.K
open Go.RowKit Go.Proofs.YtdoghjmanogelaaW.PrintWords Go.Proofs.YtdoghjmanogelaaW.PrintLast Go.Proofs.YtdoghjmanogelaaW.PrintMore
set_option linter.unusedVariables false
set_option linter.unusedSimpArgs false
set_option maxRecDepth 100000
theorem infoRO : (Try.prog.info? 59).map (fun i => (i.zero, i.size, i.bytes)) = some (some (.agg #[.int .i64 0, .slice none 0 0, .slice none 0 0, .int .i64 0, .int .i64 0, .bool false]), 6, 80) := by kernel_rfl
theorem infoRF : (Try.prog.info? 54).map (fun i => (i.zero, i.size, i.bytes)) = some (some (.agg #[.int .i64 0, .int .i64 0, .slice none 0 0]), 3, 40) := by kernel_rfl
theorem infoRB : (Try.prog.info? 51).map (fun i => (i.zero, i.size, i.bytes)) = some (some (.agg #[.slice none 0 0]), 1, 24) := by kernel_rfl
def Ow {α : Type} (kd : Kd α) (e : TypeId) (w : World) (lo : Nat) (v : SV) (xs : List α) : Prop := kd.R e w 0 (fun k => some k = (svl v).ownBlock) (svl v) xs ∧ ∀ b, (svl v).ownBlock = some b → lo ≤ b
theorem Ow.of_new {α : Type} {kd : Kd α} {e : TypeId} {a w : World} {lo : Nat} {v : SV} {xs : List α} (hE : kd.E = []) (h : kd.R e w 0 (New (fun _ => False) a w) (svl v) xs) (hl : lo ≤ a.heap.size) : Ow kd e w lo v xs :=
  ⟨Kd.R_tight hE h, fun b hb => by
    rcases h.1 b hb with h | h
    · exact h.elim
    · have := h.1; omega⟩
theorem Ow.chg {α : Type} {kd : Kd α} {e : TypeId} {w w' : World} {lo : Nat} {v : SV} {xs : List α} {S : Nat → Prop} (h : Ow kd e w lo v xs) (hc : Chg S w w') (hS : ∀ b, (svl v).ownBlock = some b → S b → False) : Ow kd e w' lo v xs :=
  ⟨R_chg h.1 hc (fun b _ hb => hS b hb.symm), h.2⟩
theorem Ow.mono {α : Type} {kd : Kd α} {e : TypeId} {w : World} {lo lo' : Nat} {v : SV} {xs : List α} (h : Ow kd e w lo v xs) (hl : lo' ≤ lo) : Ow kd e w lo' v xs := ⟨h.1, fun b hb => Nat.le_trans hl (h.2 b hb)⟩
theorem Ow.toC {α : Type} {kd : Kd α} {e : TypeId} {w : World} {lo : Nat} {v : SV} {xs : List α} (h : Ow kd e w lo v xs) : kd.C w v.1 v.2.1 xs := R_toC h.1
theorem Ow.lt {α : Type} {kd : Kd α} {e : TypeId} {w : World} {lo : Nat} {v : SV} {xs : List α} (h : Ow kd e w lo v xs) (b : Nat) (hb : (svl v).ownBlock = some b) : b < w.heap.size := by
  obtain ⟨c, hc⟩ := Kd.R_typed h.1 b hb
  exact blk_lt hc
theorem Ow.ne {α β : Type} {kd : Kd α} {kd' : Kd β} {e e' : TypeId} {w : World} {lo lo' : Nat} {v v' : SV} {xs : List α} {ys : List β} (h : Ow kd e w lo v xs) (h' : Ow kd' e' w lo' v' ys) (he : e ≠ e') (b : Nat) (hb : (svl v).ownBlock = some b) (hb' : (svl v').ownBlock = some b) : False := by
  obtain ⟨c1, e1⟩ := Kd.R_typed h.1 b hb
  obtain ⟨c2, e2⟩ := Kd.R_typed h'.1 b hb'
  rw [e1] at e2
  injection e2 with e2
  injection e2 with _ e2
  exact he e2
set_option maxHeartbeats 4000000
theorem ref_CopyObject (w : World) (r : RO) (its : List QV) (ks : List Int) (h1 : Kd.C kQV w r.items.1 r.items.2.1 its) (h2 : Kd.C (Kd.int .i64) w r.keys.1 r.keys.2.1 ks) (hn1 : its.length ≤ 1048576) (hn2 : ks.length ≤ 1048576) :
    Calls Try.prog 23 #[.agg #[.int .i64 r.kind, .slice r.items.1 r.items.2.1 r.items.2.2, .slice r.keys.1 r.keys.2.1 r.keys.2.2, .int .i64 r.fn, .int .i64 r.cap, .bool r.shut]] w fun e w' => ∃ its' ks' : SV, e = .returned (.agg #[.int .i64 r.kind, svl its', svl ks', .int .i64 r.fn, .int .i64 r.cap, .bool r.shut]) ∧ Ow kQV 56 w' w.heap.size its' its ∧ Ow (Kd.int .i64) 2 w' w.heap.size ks' ks ∧ Chg (fun _ => False) w w' := by
  have h1A := Aside0.mk h1
  have h2A := Aside0.mk h2
  clear h1 h2
  go_enter Try.func23, Try.ntmps23
  go_wp2_with (first | (go_at_call 66; go_must (generalize hW : World.alloc (World.alloc (World.alloc w _) _) _ = W0); go_must (have hz0 : Aside0 (Chg (fun _ => False) w W0) := ⟨by rw [← hW]; exact (((Chg.refl _ w).alloc _).alloc _).alloc _⟩); go_must (have hb10 : Aside0 (W0.heap[w.heap.size]? = some (.cells #[.int .i64 r.kind, .slice r.items.1 r.items.2.1 r.items.2.2, .slice r.keys.1 r.keys.2.1 r.keys.2.2, .int .i64 r.fn, .int .i64 r.cap, .bool r.shut] 59 (0, 0))) := ⟨by rw [← hW]; exact (((Chg.refl (fun _ => False) (w.alloc _)).alloc _).alloc _).blk (heap_alloc_new w _) (fun e => e)⟩); go_must (have hb20 : Aside0 (W0.heap[w.heap.size + 1]? = some (.cells #[.int .i64 0, .slice none 0 0, .slice none 0 0, .int .i64 0, .int .i64 0, .bool false] 59 (0, 0))) := ⟨by rw [← hW]; exact ((Chg.refl (fun _ => False) ((w.alloc _).alloc _)).alloc _).blk (heap_alloc2_new w _ _) (fun e => e)⟩); go_must (have hb30 : W0.heap[w.heap.size + 1 + 1]? = some (.cells #[.int .i64 r.kind, .slice r.items.1 r.items.2.1 r.items.2.2, .slice r.keys.1 r.keys.2.1 r.keys.2.2, .int .i64 r.fn, .int .i64 r.cap, .bool r.shut] 59 (0, 0)) := by rw [← hW]; exact heap_alloc3 w _ _ _); go_must (obtain ⟨b3, hb3E⟩ : ∃ b3, b3 = w.heap.size + 1 + 1 := ⟨_, rfl⟩); go_must (rw [← hb3E] at hb30 ⊢); go_must (obtain ⟨b2, hb2E⟩ : ∃ b2, b2 = w.heap.size + 1 := ⟨_, rfl⟩); go_must (rw [← hb2E] at hb20 ⊢); go_must (have hbo : Aside0 (w.heap.size < b2 ∧ b2 < b3) := ⟨by omega⟩); go_must (have hlt : Aside0 (b3 < W0.heap.size) := ⟨blk_lt hb30⟩); go_must (replace hb30 := Aside0.mk hb30); go_must (clear hb3E hb2E hW); go_must (refine (ref_CopyValues _ r.items.1 r.items.2.1 r.items.2.2 its (C_chg h1A.out (hz0.out.below (fun _ _ h => h))) hn1).mono ?_); go_must (rintro e w1 ⟨v1, rfl, hr1, hc1⟩); go_must (obtain ⟨A1, n1, c1, rfl⟩ := R_sl hr1); go_must (have ow1 := Aside0.mk (Ow.of_new (v := (A1, n1, c1)) (lo := W0.heap.size) rfl hr1 (by first | exact Nat.le_refl _ | exact hsz0.out))); go_must (have g1 := hc1.blk hb10.out (fun h => h)); go_must (have g2 := hc1.blk hb20.out (fun h => h)); go_must (have g3 := hc1.blk hb30.out (fun h => h)); go_must (have y := blk_cell g3 1); go_must (have z := blk_frozen g3 1); go_must (have hs1 := (Chg.refl (fun k => k = b3) w1).setCell (p := ⟨b3, 1, none⟩) (fun _ => rfl) (.slice A1 n1 c1)); go_must (have hb11 := Aside0.mk (hs1.blk g1 (fun h => by have := hbo.out; omega))); go_must (have hb21 := Aside0.mk (hs1.blk g2 (fun h => by have := hbo.out; omega))); go_must (have hb31 := Aside0.mk (blk_set g3 1 (.slice A1 n1 c1))); go_must (have hz1 := Aside0.mk ((hz0.out.trans hc1 (fun _ _ h => h)).trans hs1 (fun k hk h => by have := hbo.out; omega))); go_must (have hsz1 := Aside0.mk (Nat.le_trans (Nat.le_refl _) (Nat.le_trans hc1.size hs1.size))); go_must (replace ow1 := Aside0.mk (ow1.out.chg hs1 (fun b hb h => by have := ow1.out.2 b hb; have := hlt.out; omega))); go_must (have x := blk_cell hb11.out 2); go_must (clear g1 g2 g3 hr1 hc1 hs1)) | (go_at_call 67; go_must (refine (ref_CopyLongs _ r.keys.1 r.keys.2.1 r.keys.2.2 ks (C_chg h2A.out (hz1.out.below (fun _ _ h => h))) hn2).mono ?_); go_must (rintro e w2 ⟨v2, rfl, hr2, hc2⟩); go_must (obtain ⟨A2, n2, c2, rfl⟩ := R_sl hr2); go_must (have ow2 := Aside0.mk (Ow.of_new (v := (A2, n2, c2)) (lo := W0.heap.size) rfl hr2 (by first | exact Nat.le_refl _ | exact hsz1.out))); go_must (have g1 := hc2.blk hb11.out (fun h => h)); go_must (have g2 := hc2.blk hb21.out (fun h => h)); go_must (have g3 := hc2.blk hb31.out (fun h => h)); go_must (have y := blk_cell g3 2); go_must (have z := blk_frozen g3 2); go_must (have hs2 := (Chg.refl (fun k => k = b3) w2).setCell (p := ⟨b3, 2, none⟩) (fun _ => rfl) (.slice A2 n2 c2)); go_must (have hb12 := Aside0.mk (hs2.blk g1 (fun h => by have := hbo.out; omega))); go_must (have hb22 := Aside0.mk (hs2.blk g2 (fun h => by have := hbo.out; omega))); go_must (have hb32 := Aside0.mk (blk_set g3 2 (.slice A2 n2 c2))); go_must (have hz2 := Aside0.mk ((hz1.out.trans hc2 (fun _ _ h => h)).trans hs2 (fun k hk h => by have := hbo.out; omega))); go_must (have hsz2 := Aside0.mk (Nat.le_trans hsz1.out (Nat.le_trans hc2.size hs2.size))); go_must (replace ow1 := Aside0.mk ((ow1.out.chg hc2 (fun _ _ h => h)).chg hs2 (fun b hb h => by have := ow1.out.2 b hb; have := hlt.out; omega))); go_must (replace ow2 := Aside0.mk (ow2.out.chg hs2 (fun b hb h => by have := ow2.out.2 b hb; have := hlt.out; omega))); go_must (have q0 := blk_cell hb32.out 0); go_must (have q1 := blk_cell hb32.out 1); go_must (have q2 := blk_cell hb32.out 2); go_must (have q3 := blk_cell hb32.out 3); go_must (have q4 := blk_cell hb32.out 4); go_must (have q5 := blk_cell hb32.out 5); go_must (have t0 := blk_cell hb22.out 0); go_must (have t1 := blk_cell hb22.out 1); go_must (have t2 := blk_cell hb22.out 2); go_must (have t3 := blk_cell hb22.out 3); go_must (have t4 := blk_cell hb22.out 4); go_must (have t5 := blk_cell hb22.out 5); go_must (have u0 := blk_frozen hb22.out 0); go_must (have u1 := blk_frozen hb22.out 1); go_must (have u2 := blk_frozen hb22.out 2); go_must (have u3 := blk_frozen hb22.out 3); go_must (have u4 := blk_frozen hb22.out 4); go_must (have u5 := blk_frozen hb22.out 5); go_must (clear g1 g2 g3 hr2 hc2 hs2)))
  (try simp only [Exit.inBlock, Exit.then])
  refine bodyPost_ret (results_cell_row rfl _ _ _ _ _ _ _ rfl (blk_set (blk_set (blk_set (blk_set (blk_set (blk_set hb22.out 0 (.int .i64 r.kind)) 1 (.slice A1 n1 c1)) 2 (.slice A2 n2 c2)) 3 (.int .i64 r.fn)) 4 (.int .i64 r.cap)) 5 (.bool r.shut)) Try.underlying59 rfl (by kernel_rfl)) rfl ?_
  have hfin := (Chg.setCell (Chg.setCell (Chg.setCell (Chg.setCell (Chg.setCell (Chg.setCell (Chg.refl (fun k => k = b2) (w2.setCell ⟨b3, 2, none⟩ (.slice A2 n2 c2))) (p := ⟨b2, 0, none⟩) (fun _ => rfl) (.int .i64 r.kind)) (p := ⟨b2, 1, none⟩) (fun _ => rfl) (.slice A1 n1 c1)) (p := ⟨b2, 2, none⟩) (fun _ => rfl) (.slice A2 n2 c2)) (p := ⟨b2, 3, none⟩) (fun _ => rfl) (.int .i64 r.fn)) (p := ⟨b2, 4, none⟩) (fun _ => rfl) (.int .i64 r.cap)) (p := ⟨b2, 5, none⟩) (fun _ => rfl) (.bool r.shut))
  have hlo := hz0.out.size
  refine ⟨(A1, n1, c1), (A2, n2, c2), rfl, (ow1.out.chg hfin (fun b hb h => by have := ow1.out.2 b hb; have := hlt.out; have := hbo.out; omega)).mono hlo, (ow2.out.chg hfin (fun b hb h => by have := ow2.out.2 b hb; have := hlt.out; have := hbo.out; omega)).mono hlo, ?_⟩
  exact hz2.out.trans hfin (fun k hk h => by have := hbo.out; omega)
theorem ref_CopyFrame (w : World) (r : RF) (its : List QV) (h1 : Kd.C kQV w r.slots.1 r.slots.2.1 its) (hn1 : its.length ≤ 1048576) :
    Calls Try.prog 103 #[.agg #[.int .i64 r.fn, .int .i64 r.pc, .slice r.slots.1 r.slots.2.1 r.slots.2.2]] w fun e w' => ∃ its' : SV, e = .returned (.agg #[.int .i64 r.fn, .int .i64 r.pc, svl its']) ∧ Ow kQV 56 w' w.heap.size its' its ∧ Chg (fun _ => False) w w' := by
  have h1A := Aside0.mk h1
  clear h1
  go_enter Try.func103, Try.ntmps103
  go_wp2_with (first | (go_at_call 66; go_must (generalize hW : World.alloc (World.alloc (World.alloc w _) _) _ = W0); go_must (have hz0 : Aside0 (Chg (fun _ => False) w W0) := ⟨by rw [← hW]; exact (((Chg.refl _ w).alloc _).alloc _).alloc _⟩); go_must (have hb10 : Aside0 (W0.heap[w.heap.size]? = some (.cells #[.int .i64 r.fn, .int .i64 r.pc, .slice r.slots.1 r.slots.2.1 r.slots.2.2] 54 (0, 0))) := ⟨by rw [← hW]; exact (((Chg.refl (fun _ => False) (w.alloc _)).alloc _).alloc _).blk (heap_alloc_new w _) (fun e => e)⟩); go_must (have hb20 : Aside0 (W0.heap[w.heap.size + 1]? = some (.cells #[.int .i64 0, .int .i64 0, .slice none 0 0] 54 (0, 0))) := ⟨by rw [← hW]; exact ((Chg.refl (fun _ => False) ((w.alloc _).alloc _)).alloc _).blk (heap_alloc2_new w _ _) (fun e => e)⟩); go_must (have hb30 : W0.heap[w.heap.size + 1 + 1]? = some (.cells #[.int .i64 r.fn, .int .i64 r.pc, .slice r.slots.1 r.slots.2.1 r.slots.2.2] 54 (0, 0)) := by rw [← hW]; exact heap_alloc3 w _ _ _); go_must (obtain ⟨b3, hb3E⟩ : ∃ b3, b3 = w.heap.size + 1 + 1 := ⟨_, rfl⟩); go_must (rw [← hb3E] at hb30 ⊢); go_must (obtain ⟨b2, hb2E⟩ : ∃ b2, b2 = w.heap.size + 1 := ⟨_, rfl⟩); go_must (rw [← hb2E] at hb20 ⊢); go_must (have hbo : Aside0 (w.heap.size < b2 ∧ b2 < b3) := ⟨by omega⟩); go_must (have hlt : Aside0 (b3 < W0.heap.size) := ⟨blk_lt hb30⟩); go_must (replace hb30 := Aside0.mk hb30); go_must (clear hb3E hb2E hW); go_must (refine (ref_CopyValues _ r.slots.1 r.slots.2.1 r.slots.2.2 its (C_chg h1A.out (hz0.out.below (fun _ _ h => h))) hn1).mono ?_); go_must (rintro e w1 ⟨v1, rfl, hr1, hc1⟩); go_must (obtain ⟨A1, n1, c1, rfl⟩ := R_sl hr1); go_must (have ow1 := Aside0.mk (Ow.of_new (v := (A1, n1, c1)) (lo := W0.heap.size) rfl hr1 (by first | exact Nat.le_refl _ | exact hsz0.out))); go_must (have g1 := hc1.blk hb10.out (fun h => h)); go_must (have g2 := hc1.blk hb20.out (fun h => h)); go_must (have g3 := hc1.blk hb30.out (fun h => h)); go_must (have y := blk_cell g3 2); go_must (have z := blk_frozen g3 2); go_must (have hs1 := (Chg.refl (fun k => k = b3) w1).setCell (p := ⟨b3, 2, none⟩) (fun _ => rfl) (.slice A1 n1 c1)); go_must (have hb11 := Aside0.mk (hs1.blk g1 (fun h => by have := hbo.out; omega))); go_must (have hb21 := Aside0.mk (hs1.blk g2 (fun h => by have := hbo.out; omega))); go_must (have hb31 := Aside0.mk (blk_set g3 2 (.slice A1 n1 c1))); go_must (have hz1 := Aside0.mk ((hz0.out.trans hc1 (fun _ _ h => h)).trans hs1 (fun k hk h => by have := hbo.out; omega))); go_must (have hsz1 := Aside0.mk (Nat.le_trans (Nat.le_refl _) (Nat.le_trans hc1.size hs1.size))); go_must (replace ow1 := Aside0.mk (ow1.out.chg hs1 (fun b hb h => by have := ow1.out.2 b hb; have := hlt.out; omega))); go_must (have q0 := blk_cell hb31.out 0); go_must (have q1 := blk_cell hb31.out 1); go_must (have q2 := blk_cell hb31.out 2); go_must (have t0 := blk_cell hb21.out 0); go_must (have t1 := blk_cell hb21.out 1); go_must (have t2 := blk_cell hb21.out 2); go_must (have u0 := blk_frozen hb21.out 0); go_must (have u1 := blk_frozen hb21.out 1); go_must (have u2 := blk_frozen hb21.out 2); go_must (clear g1 g2 g3 hr1 hc1 hs1)))
  (try simp only [Exit.inBlock, Exit.then])
  refine bodyPost_ret (results_cell_row rfl _ _ _ _ _ _ _ rfl (blk_set (blk_set (blk_set hb21.out 0 (.int .i64 r.fn)) 1 (.int .i64 r.pc)) 2 (.slice A1 n1 c1)) Try.underlying54 rfl (by kernel_rfl)) rfl ?_
  have hfin := (Chg.setCell (Chg.setCell (Chg.setCell (Chg.refl (fun k => k = b2) (w1.setCell ⟨b3, 2, none⟩ (.slice A1 n1 c1))) (p := ⟨b2, 0, none⟩) (fun _ => rfl) (.int .i64 r.fn)) (p := ⟨b2, 1, none⟩) (fun _ => rfl) (.int .i64 r.pc)) (p := ⟨b2, 2, none⟩) (fun _ => rfl) (.slice A1 n1 c1))
  have hlo := hz0.out.size
  refine ⟨(A1, n1, c1), rfl, (ow1.out.chg hfin (fun b hb h => by have := ow1.out.2 b hb; have := hlt.out; have := hbo.out; omega)).mono hlo, ?_⟩
  exact hz1.out.trans hfin (fun k hk h => by have := hbo.out; omega)
end Go.Proofs.Ytdoghjmanogelaa.K

namespace Go.Proofs.Ytdoghjmanogelaa.K
open Go.RowKit Go.Proofs.YtdoghjmanogelaaW.PrintWords Go.Proofs.YtdoghjmanogelaaW.PrintLast Go.Proofs.YtdoghjmanogelaaW.PrintMore
set_option linter.unusedVariables false
set_option linter.unusedSimpArgs false
set_option maxRecDepth 100000
theorem Ow.app {α : Type} {kd : Kd α} {e : TypeId} {w w1 : World} {lo : Nat} {v v1 : SV} {xs ys : List α} (hE : kd.E = []) (h : Ow kd e w lo v xs) (hr : kd.R e w1 0 (New (fun b => (svl v).ownBlock = some b) w w1) (svl v1) ys) (hl : lo ≤ w.heap.size) : Ow kd e w1 lo v1 ys :=
  ⟨Kd.R_tight hE hr, fun b hb => by
    rcases hr.1 b hb with h1 | h1
    · exact h.2 b h1
    · have := h1.1; omega⟩
theorem Ow.nil {α : Type} (kd : Kd α) (e : TypeId) (w : World) (lo : Nat) : Ow kd e w lo (none, 0, 0) ([] : List α) := ⟨Kd.R_nil _ _ _ _ _, fun b hb => by simp [svl, Value.ownBlock] at hb⟩
def OC (w : World) (lo : Nat) (rs : List RO) (xs : List QO) : Prop := rs.length = xs.length ∧ ∀ (k : Nat) (r : RO) (x : QO), rs[k]? = some r → xs[k]? = some x → r.kind = x.kind ∧ r.fn = x.fn ∧ r.cap = x.cap ∧ r.shut = x.shut ∧ Ow kQV 56 w lo r.items x.items ∧ Ow (Kd.int .i64) 2 w lo r.keys x.keys
def FC (w : World) (lo : Nat) (rs : List RF) (xs : List QFr) : Prop := rs.length = xs.length ∧ ∀ (k : Nat) (r : RF) (x : QFr), rs[k]? = some r → xs[k]? = some x → r.fn = x.fn ∧ r.pc = x.pc ∧ Ow kQV 56 w lo r.slots x.slots
def Hits (w : World) (lo : Nat) (S : Nat → Prop) (ts : List TypeId) : Prop := ∀ b cs t, S b → lo ≤ b → w.heap[b]? = some (.cells cs t (0, 0)) → t ∉ ts
theorem Hits.no {w : World} {lo : Nat} {ts : List TypeId} : Hits w lo (fun _ => False) ts := fun _ _ _ h => h.elim
theorem Hits.old {w : World} {lo : Nat} {S : Nat → Prop} {ts : List TypeId} (h : ∀ b, S b → b < lo) : Hits w lo S ts := fun b _ _ hb hl => absurd (h b hb) (by omega)
theorem Hits.own {α : Type} {kd : Kd α} {e : TypeId} {w : World} {lo lo' : Nat} {v : SV} {xs : List α} {ts : List TypeId} (h : Ow kd e w lo' v xs) (he : e ∉ ts) : Hits w lo (fun b => (svl v).ownBlock = some b) ts := fun b cs t hb _ hc => by
  obtain ⟨c1, e1⟩ := Kd.R_typed h.1 b hb
  rw [e1] at hc
  injection hc with hc
  injection hc with _ hc
  rw [← hc]
  exact he
theorem Ow.hit {α : Type} {kd : Kd α} {e : TypeId} {w w' : World} {lo : Nat} {v : SV} {xs : List α} {S : Nat → Prop} {ts : List TypeId} (h : Ow kd e w lo v xs) (hc : Chg S w w') (hh : Hits w lo S ts) (he : e ∈ ts) : Ow kd e w' lo v xs :=
  h.chg hc (fun b hb hS => by
    obtain ⟨c1, e1⟩ := Kd.R_typed h.1 b hb
    exact hh b c1 e hS (h.2 b hb) e1 he)
theorem OC.hit {w w' : World} {lo : Nat} {rs : List RO} {xs : List QO} {S : Nat → Prop} (h : OC w lo rs xs) (hc : Chg S w w') (hh : Hits w lo S [56, 2]) : OC w' lo rs xs :=
  ⟨h.1, fun k r x h1 h2 => by
    obtain ⟨a1, a2, a3, a4, a5, a6⟩ := h.2 k r x h1 h2
    exact ⟨a1, a2, a3, a4, a5.hit hc hh (by decide), a6.hit hc hh (by decide)⟩⟩
theorem FC.hit {w w' : World} {lo : Nat} {rs : List RF} {xs : List QFr} {S : Nat → Prop} (h : FC w lo rs xs) (hc : Chg S w w') (hh : Hits w lo S [56]) : FC w' lo rs xs :=
  ⟨h.1, fun k r x h1 h2 => by
    obtain ⟨a1, a2, a3⟩ := h.2 k r x h1 h2
    exact ⟨a1, a2, a3.hit hc hh (by decide)⟩⟩
theorem OC.mono {w : World} {lo lo' : Nat} {rs : List RO} {xs : List QO} (h : OC w lo rs xs) (hl : lo' ≤ lo) : OC w lo' rs xs := ⟨h.1, fun k r x h1 h2 => by
  obtain ⟨a1, a2, a3, a4, a5, a6⟩ := h.2 k r x h1 h2
  exact ⟨a1, a2, a3, a4, a5.mono hl, a6.mono hl⟩⟩
theorem FC.mono {w : World} {lo lo' : Nat} {rs : List RF} {xs : List QFr} (h : FC w lo rs xs) (hl : lo' ≤ lo) : FC w lo' rs xs := ⟨h.1, fun k r x h1 h2 => by
  obtain ⟨a1, a2, a3⟩ := h.2 k r x h1 h2
  exact ⟨a1, a2, a3.mono hl⟩⟩
theorem pair_step {α β : Type} {rs : List α} {xs : List β} {R : α → β → Prop} {k : Nat} {r : α} {x : β} (h : rs.length = (xs.take k).length ∧ ∀ (j : Nat) (a : α) (b : β), rs[j]? = some a → (xs.take k)[j]? = some b → R a b) (hk : xs[k]? = some x) (hr : R r x) :
    (rs ++ [r]).length = (xs.take (k + 1)).length ∧ ∀ (j : Nat) (a : α) (b : β), (rs ++ [r])[j]? = some a → (xs.take (k + 1))[j]? = some b → R a b := by
  have hkl := (List.getElem?_eq_some_iff.1 hk).1
  have hrk : rs.length = k := by rw [h.1, List.length_take]; omega
  refine ⟨by rw [List.length_append, List.length_take, hrk]; simp; omega, fun j a b ha hb => ?_⟩
  rcases Nat.lt_or_ge j k with hj | hj
  · rw [List.getElem?_append_left (by omega)] at ha
    rw [List.getElem?_take_of_lt (by omega)] at hb
    exact h.2 j a b ha (by rw [List.getElem?_take_of_lt hj]; exact hb)
  · rw [List.getElem?_append_right (by omega)] at ha
    have hj0 : j - rs.length = 0 := by
      have := (List.getElem?_eq_some_iff.1 ha).1
      simp at this
      omega
    rw [hj0] at ha
    simp at ha
    have hjk : j = k := by omega
    subst hjk
    rw [List.getElem?_take_of_lt (by omega), hk] at hb
    injection hb with hb
    subst ha hb
    exact hr
section
variable {P : Program} {ops : Array Oper} {rest : List Oper} {o : Oper} {a : Act} {Q : Exit → Act → World → Prop} {α : Type}
theorem app1H (d : Kd α) {w W : World} {F : Nat → Prop} (hgd : o.guard = none) (s x : Operand) {t e : TypeId} {z : Value} {bytes : Nat}
    (ho : o.op = .call { callee := .builtin .append, args := #[s, x], argTypes := #[t, t] })
    (ht : P.underlying t = some (.slice e)) (hinfo : (P.info? e).map (fun i => (i.zero, i.size, i.bytes)) = some (some z, d.sz, bytes)) (hz : z.cells.size = d.sz) (hs0 : 0 < d.sz) (hb0 : 0 < bytes)
    {H : Nat} {v : Value} {xs : List α} (p : α) {cs : List Value} (hs : a.eval s = v) (hx : a.eval x = .slice (some ⟨H, 0, none⟩) 1 1) (hH : W.heap.size = H) (hp : d.M W 0 (fun _ => False) p cs)
    (HO : Aside0 (d.R e W 0 (New F w W) v xs)) (HC : Aside0 (Chg F w W)) (hl : Aside0 ((xs.length + 1) * bytes ≤ 140737488355328))
    (h : ∀ v1 w1, Aside0 (d.R e w1 0 (New F w w1) v1 (xs ++ [p])) → Aside0 (Chg F w w1) → wpList P ops Q rest (a.put o.dst v1) w1) :
    wpList P ops Q (o :: rest) a (W.alloc (.cells cs.toArray e)) := by
  subst hH
  exact app1 d hgd s x ho ht hinfo hz hs0 hb0 p hs hx hp HO HC hl h
end
set_option maxHeartbeats 4000000
theorem ref_CopyObjects (w : World) (A : Option Addr) (n cap : Nat) (ros : List RO) (xs : List QO) (hC : Kd.C kRO w A n ros) (hlen : ros.length = xs.length) (hraw : ∀ (k : Nat) (r : RO) (x : QO), ros[k]? = some r → xs[k]? = some x → RawO w r x) (hn : xs.length ≤ 1048576) (hb : ∀ x ∈ xs, x.items.length ≤ 1048576 ∧ x.keys.length ≤ 1048576) :
    Calls Try.prog 69 #[.slice A n cap] w fun e w' => ∃ (v : SV) (rs : List RO), e = .returned (svl v) ∧ Ow kRO 59 w' w.heap.size v rs ∧ OC w' w.heap.size rs xs ∧ Chg (fun _ => False) w w' := by
  have e0 := hC.1
  subst e0
  have hCA := Aside0.mk hC
  have hRA := Aside0.mk hraw
  have hbA := Aside0.mk hb
  have hLA := Aside0.mk hlen
  have hnr : ros.length ≤ 1048576 := by omega
  clear hC hraw hb hlen
  go_enter Try.func69, Try.ntmps69
  go_wp2
  go_loopw [3, 4] (fun v i wr => ∃ (k : Nat) (A2 : Option Addr) (n2 c2 : Nat) (rs : List RO), v = .slice A2 n2 c2 ∧ i = .int .i64 k ∧ k ≤ ros.length ∧ Aside0 (Ow kRO 59 wr w.heap.size (A2, n2, c2) rs) ∧ Aside0 (OC wr w.heap.size rs (xs.take k)) ∧ Aside0 (Chg (fun _ => False) w wr)) (fun _ i _ => ros.length - (intOf i).toNat)
  case atStart => exact ⟨0, none, 0, 0, [], rfl, rfl, by omega, ⟨Ow.nil _ _ _ _⟩, ⟨rfl, fun k r x h => by simp at h⟩, ⟨Chg.refl _ _⟩⟩
  case round =>
    obtain ⟨k, A2, n2, c2, rs, rfl, rfl, hk, hO, hK, hCh⟩ := hrel
    by_cases hlt : k < ros.length
    · obtain ⟨ad, r, e1, e2, x0, x1, x2, x3, x4, x5⟩ := atRO (C_chg hCA.out (hCh.out.below (fun _ _ h => h))) k hlt
      subst e1
      have hk0 : (0 : Int) ≤ k := by omega
      have hk1 : (k : Int) < ros.length := by omega
      obtain ⟨q, hq⟩ : ∃ q, xs[k]? = some q := ⟨_, List.getElem?_eq_getElem (by have := hLA.out; omega)⟩
      have hrw := Aside0.mk ((hRA.out k r q e2 hq).below (hCh.out.below (fun _ _ h => h)))
      have hqb := Aside0.mk (hbA.out q (List.mem_of_getElem? hq))
      have hqA := Aside0.mk hq
      have hrl := Aside0.mk hK.out.1
      clear e2 hq
      have hl : Aside0 ((rs.length + 1) * 80 ≤ 140737488355328) := ⟨by have := hrl.out; rw [List.length_take] at this; omega⟩
      go_wp2_with (first | (go_at_call 23; go_must (refine (ref_CopyObject _ r q.items q.keys hrw.out.2.2.2.2.1 hrw.out.2.2.2.2.2 hqb.out.1 hqb.out.2).mono ?_); go_must (rintro e w1 ⟨⟨iA, iN, iC⟩, ⟨kA, kN, kC⟩, rfl, oi1, ok1, hc1⟩); go_must (simp only [svl]); go_must (have hO1 := Aside0.mk ((hO.out.chg hc1 (fun _ _ h => h)).chg ((Chg.refl (fun _ => False) w1).alloc (.cells #[.int .i64 r.kind, .slice iA iN iC, .slice kA kN kC, .int .i64 r.fn, .int .i64 r.cap, .bool r.shut] 59 (0, 0))) (fun _ _ h => h))); go_must (have hRd := own_new0 hO1.out.1); go_must (have hCd : Aside0 (Chg (fun b => (svl (A2, n2, c2)).ownBlock = some b) (w1.alloc (.cells #[.int .i64 r.kind, .slice iA iN iC, .slice kA kN kC, .int .i64 r.fn, .int .i64 r.cap, .bool r.shut] 59 (0, 0))) (w1.alloc (.cells #[.int .i64 r.kind, .slice iA iN iC, .slice kA kN kC, .int .i64 r.fn, .int .i64 r.cap, .bool r.shut] 59 (0, 0)))) := ⟨Chg.refl _ _⟩); go_must (have hz1 := Aside0.mk (hc1.alloc (.cells #[.int .i64 r.kind, .slice iA iN iC, .slice kA kN kC, .int .i64 r.fn, .int .i64 r.cap, .bool r.shut] 59 (0, 0)))); go_must (have hw1 := Aside0.mk hc1.size); go_must (replace oi1 := Aside0.mk (oi1.chg ((Chg.refl (fun _ => False) w1).alloc (.cells #[.int .i64 r.kind, .slice iA iN iC, .slice kA kN kC, .int .i64 r.fn, .int .i64 r.cap, .bool r.shut] 59 (0, 0))) (fun _ _ h => h))); go_must (replace ok1 := Aside0.mk (ok1.chg ((Chg.refl (fun _ => False) w1).alloc (.cells #[.int .i64 r.kind, .slice iA iN iC, .slice kA kN kC, .int .i64 r.fn, .int .i64 r.cap, .bool r.shut] 59 (0, 0))) (fun _ _ h => h))); go_must (clear hc1)) | (at_builtin; go_must (refine app1H kRO rfl (.tmp 17) (.tmp 19) rfl Try.underlying37 infoRO rfl (by decide) (by decide) ⟨r.kind, (iA, iN, iC), (kA, kN, kC), r.fn, r.cap, r.shut⟩ rfl rfl (by simp) (kRO_M _ _ _ _) hRd hCd hl ?_); go_must (intro v1 w2 hr2 hc2); go_must (obtain ⟨A4, n4, c4, rfl⟩ := R_sl hr2.out)))
      go_roundw
      case measure => first | (simp [intOf]; done) | (simp [intOf]; omega)
      case rel =>
        have hfin : Chg (fun b => (svl (A2, n2, c2)).ownBlock = some b) wr w2 := (hz1.out.mono (fun _ _ h => h.elim)).trans hc2.out (fun _ _ h => h)
        have hlo := hCh.out.size
        have hO4 := Aside0.mk (Ow.app (v1 := (A4, n4, c4)) rfl hO1.out hr2.out (Nat.le_trans hlo hz1.out.size))
        refine ⟨k + 1, A4, n4, c4, rs ++ [(⟨r.kind, (iA, iN, iC), (kA, kN, kC), r.fn, r.cap, r.shut⟩ : RO)], rfl, by go_num, by omega, hO4, ⟨?_⟩, ⟨hCh.out.trans hfin (fun b hb h => by have := hO.out.2 b h; omega)⟩⟩
        have hKn := hK.out.hit hfin (Hits.own hO.out (by decide))
        exact pair_step (R := fun (r : RO) (x : QO) => r.kind = x.kind ∧ r.fn = x.fn ∧ r.cap = x.cap ∧ r.shut = x.shut ∧ Ow kQV 56 w2 w.heap.size r.items x.items ∧ Ow (Kd.int .i64) 2 w2 w.heap.size r.keys x.keys) hKn hqA.out ⟨hrw.out.1, hrw.out.2.1, hrw.out.2.2.1, hrw.out.2.2.2.1, ((oi1.out.chg hc2.out (fun b hb hS => Ow.ne oi1.out hO1.out (by decide) b hb hS)).mono (Nat.le_trans hlo (Nat.le_refl _))), ((ok1.out.chg hc2.out (fun b hb hS => Ow.ne ok1.out hO1.out (by decide) b hb hS)).mono (Nat.le_trans hlo (Nat.le_refl _)))⟩
    · obtain rfl : k = ros.length := by omega
      go_wp2
      go_ret
      have h := hK.out
      rw [List.take_of_length_le (by have := hLA.out; omega)] at h
      exact ⟨(A2, n2, c2), rs, rfl, hO.out, h, hCh.out⟩
set_option maxHeartbeats 4000000
theorem ref_CopyFrames (w : World) (A : Option Addr) (n cap : Nat) (ros : List RF) (xs : List QFr) (hC : Kd.C kRF w A n ros) (hlen : ros.length = xs.length) (hraw : ∀ (k : Nat) (r : RF) (x : QFr), ros[k]? = some r → xs[k]? = some x → RawF w r x) (hn : xs.length ≤ 1048576) (hb : ∀ x ∈ xs, x.slots.length ≤ 1048576) :
    Calls Try.prog 90 #[.slice A n cap] w fun e w' => ∃ (v : SV) (rs : List RF), e = .returned (svl v) ∧ Ow kRF 54 w' w.heap.size v rs ∧ FC w' w.heap.size rs xs ∧ Chg (fun _ => False) w w' := by
  have e0 := hC.1
  subst e0
  have hCA := Aside0.mk hC
  have hRA := Aside0.mk hraw
  have hbA := Aside0.mk hb
  have hLA := Aside0.mk hlen
  have hnr : ros.length ≤ 1048576 := by omega
  clear hC hraw hb hlen
  go_enter Try.func90, Try.ntmps90
  go_wp2
  go_loopw [3, 4] (fun v i wr => ∃ (k : Nat) (A2 : Option Addr) (n2 c2 : Nat) (rs : List RF), v = .slice A2 n2 c2 ∧ i = .int .i64 k ∧ k ≤ ros.length ∧ Aside0 (Ow kRF 54 wr w.heap.size (A2, n2, c2) rs) ∧ Aside0 (FC wr w.heap.size rs (xs.take k)) ∧ Aside0 (Chg (fun _ => False) w wr)) (fun _ i _ => ros.length - (intOf i).toNat)
  case atStart => exact ⟨0, none, 0, 0, [], rfl, rfl, by omega, ⟨Ow.nil _ _ _ _⟩, ⟨rfl, fun k r x h => by simp at h⟩, ⟨Chg.refl _ _⟩⟩
  case round =>
    obtain ⟨k, A2, n2, c2, rs, rfl, rfl, hk, hO, hK, hCh⟩ := hrel
    by_cases hlt : k < ros.length
    · obtain ⟨ad, r, e1, e2, x0, x1, x2⟩ := atRF (C_chg hCA.out (hCh.out.below (fun _ _ h => h))) k hlt
      subst e1
      have hk0 : (0 : Int) ≤ k := by omega
      have hk1 : (k : Int) < ros.length := by omega
      obtain ⟨q, hq⟩ : ∃ q, xs[k]? = some q := ⟨_, List.getElem?_eq_getElem (by have := hLA.out; omega)⟩
      have hrw := Aside0.mk ((hRA.out k r q e2 hq).below (hCh.out.below (fun _ _ h => h)))
      have hqb := Aside0.mk (hbA.out q (List.mem_of_getElem? hq))
      have hqA := Aside0.mk hq
      have hrl := Aside0.mk hK.out.1
      clear e2 hq
      have hl : Aside0 ((rs.length + 1) * 40 ≤ 140737488355328) := ⟨by have := hrl.out; rw [List.length_take] at this; omega⟩
      go_wp2_with (first | (go_at_call 103; go_must (refine (ref_CopyFrame _ r q.slots hrw.out.2.2 hqb.out).mono ?_); go_must (rintro e w1 ⟨⟨iA, iN, iC⟩, rfl, oi1, hc1⟩); go_must (simp only [svl]); go_must (have hO1 := Aside0.mk ((hO.out.chg hc1 (fun _ _ h => h)).chg ((Chg.refl (fun _ => False) w1).alloc (.cells #[.int .i64 r.fn, .int .i64 r.pc, .slice iA iN iC] 54 (0, 0))) (fun _ _ h => h))); go_must (have hRd := own_new0 hO1.out.1); go_must (have hCd : Aside0 (Chg (fun b => (svl (A2, n2, c2)).ownBlock = some b) (w1.alloc (.cells #[.int .i64 r.fn, .int .i64 r.pc, .slice iA iN iC] 54 (0, 0))) (w1.alloc (.cells #[.int .i64 r.fn, .int .i64 r.pc, .slice iA iN iC] 54 (0, 0)))) := ⟨Chg.refl _ _⟩); go_must (have hz1 := Aside0.mk (hc1.alloc (.cells #[.int .i64 r.fn, .int .i64 r.pc, .slice iA iN iC] 54 (0, 0)))); go_must (have hw1 := Aside0.mk hc1.size); go_must (replace oi1 := Aside0.mk (oi1.chg ((Chg.refl (fun _ => False) w1).alloc (.cells #[.int .i64 r.fn, .int .i64 r.pc, .slice iA iN iC] 54 (0, 0))) (fun _ _ h => h))); go_must (clear hc1)) | (at_builtin; go_must (refine app1H kRF rfl (.tmp 17) (.tmp 19) rfl Try.underlying49 infoRF rfl (by decide) (by decide) ⟨r.fn, r.pc, (iA, iN, iC)⟩ rfl rfl (by simp) (kRF_M _ _ _ _) hRd hCd hl ?_); go_must (intro v1 w2 hr2 hc2); go_must (obtain ⟨A4, n4, c4, rfl⟩ := R_sl hr2.out)))
      go_roundw
      case measure => first | (simp [intOf]; done) | (simp [intOf]; omega)
      case rel =>
        have hfin : Chg (fun b => (svl (A2, n2, c2)).ownBlock = some b) wr w2 := (hz1.out.mono (fun _ _ h => h.elim)).trans hc2.out (fun _ _ h => h)
        have hlo := hCh.out.size
        have hO4 := Aside0.mk (Ow.app (v1 := (A4, n4, c4)) rfl hO1.out hr2.out (Nat.le_trans hlo hz1.out.size))
        refine ⟨k + 1, A4, n4, c4, rs ++ [(⟨r.fn, r.pc, (iA, iN, iC)⟩ : RF)], rfl, by go_num, by omega, hO4, ⟨?_⟩, ⟨hCh.out.trans hfin (fun b hb h => by have := hO.out.2 b h; omega)⟩⟩
        have hKn := hK.out.hit hfin (Hits.own hO.out (by decide))
        exact pair_step (R := fun (r : RF) (x : QFr) => r.fn = x.fn ∧ r.pc = x.pc ∧ Ow kQV 56 w2 w.heap.size r.slots x.slots) hKn hqA.out ⟨hrw.out.1, hrw.out.2.1, ((oi1.out.chg hc2.out (fun b hb hS => Ow.ne oi1.out hO1.out (by decide) b hb hS)).mono (Nat.le_trans hlo (Nat.le_refl _)))⟩
    · obtain rfl : k = ros.length := by omega
      go_wp2
      go_ret
      have h := hK.out
      rw [List.take_of_length_le (by have := hLA.out; omega)] at h
      exact ⟨(A2, n2, c2), rs, rfl, hO.out, h, hCh.out⟩
def BC (w : World) (lo : Nat) (Z : List (RB × List RF)) (xs : List QB) : Prop := Z.length = xs.length ∧ ∀ (k : Nat) (z : RB × List RF) (x : QB), Z[k]? = some z → xs[k]? = some x → Ow kRF 54 w lo z.1.frames z.2 ∧ FC w lo z.2 x.frames
def BA (Z : List (RB × List RF)) : Prop := ∀ (i j : Nat) (y z : RB × List RF) (b : Nat), i < j → Z[i]? = some y → Z[j]? = some z → (svl y.1.frames).ownBlock = some b → (svl z.1.frames).ownBlock = some b → False
theorem BC.hit {w w' : World} {lo : Nat} {Z : List (RB × List RF)} {xs : List QB} {S : Nat → Prop} (h : BC w lo Z xs) (hc : Chg S w w') (hh : Hits w lo S [56, 54]) : BC w' lo Z xs :=
  ⟨h.1, fun k z x h1 h2 => by
    obtain ⟨a1, a2⟩ := h.2 k z x h1 h2
    exact ⟨a1.hit hc hh (by decide), a2.hit hc (fun b cs t hb hl he hm => hh b cs t hb hl he (List.mem_cons.2 (.inl (by simpa using hm))))⟩⟩
theorem BC.mono {w : World} {lo lo' : Nat} {Z : List (RB × List RF)} {xs : List QB} (h : BC w lo Z xs) (hl : lo' ≤ lo) : BC w lo' Z xs := ⟨h.1, fun k z x h1 h2 => by
  obtain ⟨a1, a2⟩ := h.2 k z x h1 h2
  exact ⟨a1.mono hl, a2.mono hl⟩⟩
theorem BA.step {w : World} {lo : Nat} {Z : List (RB × List RF)} {xs : List QB} {k : Nat} {z : RB × List RF} (h : BA Z) (hB : BC w lo Z (xs.take k)) (hz : ∀ b, (svl z.1.frames).ownBlock = some b → w.heap.size ≤ b) : BA (Z ++ [z]) := fun i j a b g hij ha hb g1 g2 => by
  have hil : i < (Z ++ [z]).length := (List.getElem?_eq_some_iff.1 ha).1
  have hjl : j < (Z ++ [z]).length := (List.getElem?_eq_some_iff.1 hb).1
  rw [List.length_append, List.length_singleton] at hil hjl
  rcases Nat.lt_or_ge j Z.length with hj | hj
  · rw [List.getElem?_append_left (by omega)] at ha hb
    exact h i j a b g hij ha hb g1 g2
  · rw [List.getElem?_append_left (by omega)] at ha
    rw [List.getElem?_append_right hj, show j - Z.length = 0 by omega] at hb
    simp at hb
    subst hb
    have hx : i < (xs.take k).length := by have := hB.1; omega
    have h1 := ((hB.2 i a _ ha (List.getElem?_eq_getElem hx)).1).lt g g1
    have h2 := hz g g2
    omega
theorem ref_CopyFibers (w : World) (A : Option Addr) (n cap : Nat) (ZI : List (RB × List RF)) (xs : List QB) (hC : Kd.C kRB w A n (ZI.map (·.1))) (hlen : ZI.length = xs.length) (hraw : ∀ (k : Nat) (z : RB × List RF) (x : QB), ZI[k]? = some z → xs[k]? = some x → RawB w z.1 z.2 x) (hn : xs.length ≤ 1048576) (hb : ∀ x ∈ xs, x.frames.length ≤ 1048576 ∧ ∀ y ∈ x.frames, y.slots.length ≤ 1048576) :
    Calls Try.prog 70 #[.slice A n cap] w fun e w' => ∃ (v : SV) (Z : List (RB × List RF)), e = .returned (svl v) ∧ Ow kRB 51 w' w.heap.size v (Z.map (·.1)) ∧ BC w' w.heap.size Z xs ∧ BA Z ∧ Chg (fun _ => False) w w' := by
  have e0 := hC.1
  rw [List.length_map] at e0
  subst e0
  have hCA := Aside0.mk hC
  have hRA := Aside0.mk hraw
  have hbA := Aside0.mk hb
  have hLA := Aside0.mk hlen
  have hnr : ZI.length ≤ 1048576 := by omega
  clear hC hraw hb hlen
  go_enter Try.func70, Try.ntmps70
  go_wp2
  go_loopw [3, 4] (fun v i wr => ∃ (k : Nat) (A2 : Option Addr) (n2 c2 : Nat) (Z : List (RB × List RF)), v = .slice A2 n2 c2 ∧ i = .int .i64 k ∧ k ≤ ZI.length ∧ Aside0 (Ow kRB 51 wr w.heap.size (A2, n2, c2) (Z.map (·.1))) ∧ Aside0 (BC wr w.heap.size Z (xs.take k)) ∧ Aside0 (BA Z) ∧ Aside0 (Chg (fun _ => False) w wr)) (fun _ i _ => ZI.length - (intOf i).toNat)
  case atStart => exact ⟨0, none, 0, 0, [], rfl, rfl, by omega, ⟨Ow.nil _ _ _ _⟩, ⟨rfl, fun k r x h => by simp at h⟩, ⟨fun i j y z b _ h => by simp at h⟩, ⟨Chg.refl _ _⟩⟩
  case round =>
    obtain ⟨k, A2, n2, c2, Z, rfl, rfl, hk, hO, hK, hBA, hCh⟩ := hrel
    by_cases hlt : k < ZI.length
    · obtain ⟨ad, r, e1, e2, x0⟩ := atRB (C_chg hCA.out (hCh.out.below (fun _ _ h => h))) k hlt
      subst e1
      have hk0 : (0 : Int) ≤ k := by omega
      have hk1 : (k : Int) < ZI.length := by omega
      obtain ⟨z, hz⟩ : ∃ z, ZI[k]? = some z := ⟨_, List.getElem?_eq_getElem hlt⟩
      rw [List.getElem?_map, hz, Option.map_some] at e2
      injection e2 with e2
      obtain ⟨q, hq⟩ : ∃ q, xs[k]? = some q := ⟨_, List.getElem?_eq_getElem (by have := hLA.out; omega)⟩
      have hrw := Aside0.mk ((hRA.out k z q hz hq).below (hCh.out.below (fun _ _ h => h)))
      rw [e2] at hrw
      have hqb := Aside0.mk (hbA.out q (List.mem_of_getElem? hq))
      have hqA := Aside0.mk hq
      have hrl := Aside0.mk hK.out.1
      clear e2 hq hz
      have hl : Aside0 (((Z.map (·.1)).length + 1) * 24 ≤ 140737488355328) := ⟨by have := hrl.out; rw [List.length_take] at this; rw [List.length_map]; omega⟩
      go_wp2_with (first | (go_at_call 90; go_must (refine (ref_CopyFrames _ r.frames.1 r.frames.2.1 r.frames.2.2 z.2 q.frames hrw.out.1 hrw.out.2.1 hrw.out.2.2 hqb.out.1 hqb.out.2).mono ?_); go_must (rintro e w1 ⟨⟨iA, iN, iC⟩, rs1, rfl, oi1, of1, hc1⟩); go_must (simp only [svl]); go_must (have hO1 := Aside0.mk (hO.out.chg hc1 (fun _ _ h => h))); go_must (have hRd := own_new0 hO1.out.1); go_must (have hCd : Aside0 (Chg (fun b => (svl (A2, n2, c2)).ownBlock = some b) w1 w1) := ⟨Chg.refl _ _⟩); go_must (have hz1 := Aside0.mk hc1); go_must (clear hc1)) | (at_builtin; go_must (refine app1 kRB rfl (.tmp 18) (.tmp 21) rfl Try.underlying38 infoRB rfl (by decide) (by decide) ⟨(iA, iN, iC)⟩ rfl rfl (kRB_M _ _ _ _) hRd hCd hl ?_); go_must (intro v1 w2 hr2 hc2); go_must (obtain ⟨A4, n4, c4, rfl⟩ := R_sl hr2.out)))
      go_roundw
      case measure => first | (simp [intOf]; done) | (simp [intOf]; omega)
      case rel =>
        have hfin : Chg (fun b => (svl (A2, n2, c2)).ownBlock = some b) wr w2 := (hz1.out.mono (fun _ _ h => h.elim)).trans hc2.out (fun _ _ h => h)
        have hlo := hCh.out.size
        have hO4 := Ow.app (v1 := (A4, n4, c4)) rfl hO1.out hr2.out (Nat.le_trans hlo hz1.out.size)
        have hmap : (Z.map (·.1)) ++ [(⟨(iA, iN, iC)⟩ : RB)] = ((Z ++ [((⟨(iA, iN, iC)⟩ : RB), rs1)]).map (·.1)) := by simp
        rw [hmap] at hO4
        refine ⟨k + 1, A4, n4, c4, Z ++ [((⟨(iA, iN, iC)⟩ : RB), rs1)], rfl, by go_num, by omega, ⟨hO4⟩, ⟨?_⟩, ⟨hBA.out.step hK.out (fun b hb => oi1.2 b hb)⟩, ⟨hCh.out.trans hfin (fun b hb h => by have := hO.out.2 b h; omega)⟩⟩
        have hKn := hK.out.hit hfin (Hits.own hO.out (by decide))
        have hh : Hits w1 wr.heap.size (fun b => (svl (A2, n2, c2)).ownBlock = some b) [56] := Hits.own hO1.out (by decide)
        exact pair_step (R := fun (z : RB × List RF) (x : QB) => Ow kRF 54 w2 w.heap.size z.1.frames z.2 ∧ FC w2 w.heap.size z.2 x.frames) hKn hqA.out ⟨(oi1.chg hc2.out (fun b hb hS => Ow.ne oi1 hO1.out (by decide) b hb hS)).mono hlo, (of1.hit hc2.out hh).mono hlo⟩
    · obtain rfl : k = ZI.length := by omega
      go_wp2
      go_ret
      have h := hK.out
      rw [List.take_of_length_le (by have := hLA.out; omega)] at h
      exact ⟨(A2, n2, c2), Z, rfl, hO.out, h, hBA.out, hCh.out⟩
end Go.Proofs.Ytdoghjmanogelaa.K

namespace Go.Proofs.Ytdoghjmanogelaa.K
open Go.RowKit Go.Proofs.YtdoghjmanogelaaW.PrintWords Go.Proofs.YtdoghjmanogelaaW.PrintLast Go.Proofs.YtdoghjmanogelaaW.PrintMore
set_option linter.unusedVariables false
set_option linter.unusedSimpArgs false
set_option maxRecDepth 100000
structure SOwn (w : World) (lo : Nat) (v1 v2 v3 : SV) (s : QS) (ros : List RO) (Z : List (RB × List RF)) : Prop where
  t : Ow Kd.string 9 w lo v1 s.texts
  o : Ow kRO 59 w lo v2 ros
  b : Ow kRB 51 w lo v3 (Z.map (·.1))
  oc : OC w lo ros s.objs
  bc : BC w lo Z s.fibers
  ba : BA Z
theorem SOwn.view {w : World} {lo : Nat} {v1 v2 v3 : SV} {s : QS} {ros : List RO} {Z : List (RB × List RF)} (h : SOwn w lo v1 v2 v3 s ros Z) : SView w v1.1 v2.1 v3.1 s ros (Z.map (·.1)) (Z.map (·.2)) := by
  have h1 := h.t.toC
  have h2 := h.o.toC
  have h3 := h.b.toC
  have e1 := h1.1
  have e2 := h2.1
  have e3 := h3.1
  have e4 := h.oc.1
  have e5 := h.bc.1
  rw [List.length_map] at e3
  rw [← e1] at h1
  rw [← e2, e4] at h2
  rw [← e3, e5] at h3
  refine ⟨h1, h2, h3, by rw [List.length_map, e5], fun k r x hr hx => ?_, fun k r l x hr hl hx => ?_⟩
  · obtain ⟨a1, a2, a3, a4, a5, a6⟩ := h.oc.2 k r x hr hx
    exact ⟨a1, a2, a3, a4, a5.toC, a6.toC⟩
  · rw [List.getElem?_map] at hr hl
    cases hz : Z[k]? with
    | none => rw [hz] at hr; cases hr
    | some z =>
      rw [hz, Option.map_some] at hr hl
      injection hr with hr
      injection hl with hl
      subst hr hl
      obtain ⟨b1, b2⟩ := h.bc.2 k z x hz hx
      refine ⟨b1.toC, b2.1, fun i q f hq hf => ?_⟩
      obtain ⟨c1, c2, c3⟩ := b2.2 i q f hq hf
      exact ⟨c1, c2, c3.toC⟩
structure SSmall (s : QS) : Prop where
  t : s.texts.length ≤ 1048576
  o : s.objs.length ≤ 1048576
  b : s.fibers.length ≤ 1048576
  oi : ∀ x ∈ s.objs, x.items.length ≤ 1048576 ∧ x.keys.length ≤ 1048576
  bf : ∀ x ∈ s.fibers, x.frames.length ≤ 1048576 ∧ ∀ y ∈ x.frames, y.slots.length ≤ 1048576
theorem zip_maps {α β : Type} {a : List α} {b : List β} (h : a.length = b.length) : (a.zip b).map (·.1) = a ∧ (a.zip b).map (·.2) = b := ⟨List.map_fst_zip (by omega), List.map_snd_zip (by omega)⟩
theorem SView.zip {w : World} {tA oA bA : Option Addr} {s : QS} {ros : List RO} {rbs : List RB} {L : List (List RF)} (h : SView w tA oA bA s ros rbs L) : (rbs.zip L).length = s.fibers.length ∧ (∀ (k : Nat) (z : RB × List RF) (x : QB), (rbs.zip L)[k]? = some z → s.fibers[k]? = some x → RawB w z.1 z.2 x) ∧ Kd.C kRB w bA s.fibers.length ((rbs.zip L).map (·.1)) := by
  have h1 := h.bs.1
  have h2 := h.ll
  refine ⟨by rw [List.length_zip]; omega, fun k z x hz hx => ?_, by rw [(zip_maps (by omega)).1]; exact h.bs⟩
  have hz' := List.getElem?_zip_eq_some.1 hz
  exact h.rb k z.1 z.2 x hz'.1 hz'.2 hx
set_option maxHeartbeats 4000000
theorem ref_CopyState (w : World) (tA oA bA : Option Addr) (tc oc bc : Nat) (s : QS) (ros : List RO) (rbs : List RB) (L : List (List RF)) (h : SView w tA oA bA s ros rbs L) (hs : SSmall s) :
    Calls Try.prog 24 #[.agg #[.slice tA s.texts.length tc, .slice oA s.objs.length oc, .slice bA s.fibers.length bc, .int .i64 s.cur, .int .i64 s.steps, .int .i64 s.spent, .int .i64 s.read]] w fun e w' => ∃ (v1 v2 v3 : SV) (ros' : List RO) (Z : List (RB × List RF)), e = .returned (.agg #[svl v1, svl v2, svl v3, .int .i64 s.cur, .int .i64 s.steps, .int .i64 s.spent, .int .i64 s.read]) ∧ SOwn w' w.heap.size v1 v2 v3 s ros' Z ∧ Chg (fun _ => False) w w' := by
  have hV := Aside0.mk h
  have hS := Aside0.mk hs
  have hrol := Aside0.mk h.os.1
  clear h hs
  go_enter Try.func24, Try.ntmps24
  go_wp2_with (first | (go_at_call 68; go_must (generalize hW : World.alloc (World.alloc (World.alloc w _) _) _ = W0); go_must (have hz0 : Aside0 (Chg (fun _ => False) w W0) := ⟨by rw [← hW]; exact (((Chg.refl _ w).alloc _).alloc _).alloc _⟩); go_must (have hb10 : Aside0 (W0.heap[w.heap.size]? = some (.cells #[.slice tA s.texts.length tc, .slice oA s.objs.length oc, .slice bA s.fibers.length bc, .int .i64 s.cur, .int .i64 s.steps, .int .i64 s.spent, .int .i64 s.read] 40 (0, 0))) := ⟨by rw [← hW]; exact (((Chg.refl (fun _ => False) (w.alloc _)).alloc _).alloc _).blk (heap_alloc_new w _) (fun e => e)⟩); go_must (have hb20 : Aside0 (W0.heap[w.heap.size + 1]? = some (.cells #[.slice none 0 0, .slice none 0 0, .slice none 0 0, .int .i64 0, .int .i64 0, .int .i64 0, .int .i64 0] 40 (0, 0))) := ⟨by rw [← hW]; exact ((Chg.refl (fun _ => False) ((w.alloc _).alloc _)).alloc _).blk (heap_alloc2_new w _ _) (fun e => e)⟩); go_must (have hb30 : W0.heap[w.heap.size + 1 + 1]? = some (.cells #[.slice tA s.texts.length tc, .slice oA s.objs.length oc, .slice bA s.fibers.length bc, .int .i64 s.cur, .int .i64 s.steps, .int .i64 s.spent, .int .i64 s.read] 40 (0, 0)) := by rw [← hW]; exact heap_alloc3 w _ _ _); go_must (obtain ⟨b3, hb3E⟩ : ∃ b3, b3 = w.heap.size + 1 + 1 := ⟨_, rfl⟩); go_must (rw [← hb3E] at hb30 ⊢); go_must (obtain ⟨b2, hb2E⟩ : ∃ b2, b2 = w.heap.size + 1 := ⟨_, rfl⟩); go_must (rw [← hb2E] at hb20 ⊢); go_must (have hbo : Aside0 (w.heap.size < b2 ∧ b2 < b3) := ⟨by omega⟩); go_must (have hlt : Aside0 (b3 < W0.heap.size) := ⟨blk_lt hb30⟩); go_must (replace hb30 := Aside0.mk hb30); go_must (clear hb3E hb2E hW); go_must (refine (ref_CopyTexts _ tA s.texts.length tc s.texts (hV.out.below (hz0.out.below (fun _ _ h => h))).ts hS.out.t).mono ?_); go_must (rintro e w1 ⟨v1, rfl, hr1, hc1⟩); go_must (obtain ⟨A1, n1, c1, rfl⟩ := R_sl hr1); go_must (have ow1 := Aside0.mk (Ow.of_new (v := (A1, n1, c1)) (lo := W0.heap.size) rfl hr1 (by first | exact Nat.le_refl _ | exact hsz0.out))); go_must (have g1 := hc1.blk hb10.out (fun h => h)); go_must (have g2 := hc1.blk hb20.out (fun h => h)); go_must (have g3 := hc1.blk hb30.out (fun h => h)); go_must (have y := blk_cell g3 0); go_must (have z := blk_frozen g3 0); go_must (have hs1 := (Chg.refl (fun k => k = b3) w1).setCell (p := ⟨b3, 0, none⟩) (fun _ => rfl) (.slice A1 n1 c1)); go_must (have hb11 := Aside0.mk (hs1.blk g1 (fun h => by have := hbo.out; omega))); go_must (have hb21 := Aside0.mk (hs1.blk g2 (fun h => by have := hbo.out; omega))); go_must (have hb31 := Aside0.mk (blk_set g3 0 (.slice A1 n1 c1))); go_must (have hz1 := Aside0.mk ((hz0.out.trans hc1 (fun _ _ h => h)).trans hs1 (fun k hk h => by have := hbo.out; omega))); go_must (have hsz1 := Aside0.mk (Nat.le_trans (Nat.le_refl _) (Nat.le_trans hc1.size hs1.size))); go_must (replace ow1 := Aside0.mk (ow1.out.chg hs1 (fun b hb h => by have := ow1.out.2 b hb; have := hlt.out; omega))); go_must (have x := blk_cell hb11.out 1); go_must (clear g1 g2 g3 hr1 hc1 hs1)) | (go_at_call 69; go_must (refine (ref_CopyObjects _ oA s.objs.length oc ros s.objs (hV.out.below (hz1.out.below (fun _ _ h => h))).os hrol.out (hV.out.below (hz1.out.below (fun _ _ h => h))).ro hS.out.o hS.out.oi).mono ?_); go_must (rintro e w2 ⟨⟨A2, n2, c2⟩, ros2, rfl, ow2, oc2, hc2⟩); go_must (simp only [svl]); go_must (replace ow2 := Aside0.mk (ow2.mono hsz1.out)); go_must (replace oc2 := Aside0.mk (oc2.mono hsz1.out)); go_must (have g1 := hc2.blk hb11.out (fun h => h)); go_must (have g2 := hc2.blk hb21.out (fun h => h)); go_must (have g3 := hc2.blk hb31.out (fun h => h)); go_must (have y := blk_cell g3 1); go_must (have z := blk_frozen g3 1); go_must (have hs2 := (Chg.refl (fun k => k = b3) w2).setCell (p := ⟨b3, 1, none⟩) (fun _ => rfl) (.slice A2 n2 c2)); go_must (have hb12 := Aside0.mk (hs2.blk g1 (fun h => by have := hbo.out; omega))); go_must (have hb22 := Aside0.mk (hs2.blk g2 (fun h => by have := hbo.out; omega))); go_must (have hb32 := Aside0.mk (blk_set g3 1 (.slice A2 n2 c2))); go_must (have hz2 := Aside0.mk ((hz1.out.trans hc2 (fun _ _ h => h)).trans hs2 (fun k hk h => by have := hbo.out; omega))); go_must (have hsz2 := Aside0.mk (Nat.le_trans hsz1.out (Nat.le_trans hc2.size hs2.size))); go_must (replace ow1 := Aside0.mk ((ow1.out.chg hc2 (fun _ _ h => h)).chg hs2 (fun b hb h => by have := ow1.out.2 b hb; have := hlt.out; omega))); go_must (replace oc2 := Aside0.mk (oc2.out.hit hs2 (Hits.old (fun b h => by have := hlt.out; omega)))); go_must (replace ow2 := Aside0.mk (ow2.out.chg hs2 (fun b hb h => by have := ow2.out.2 b hb; have := hlt.out; omega))); go_must (have x := blk_cell hb12.out 2); go_must (clear g1 g2 g3 hc2 hs2)) | (go_at_call 70; go_must (refine (ref_CopyFibers _ bA s.fibers.length bc (rbs.zip L) s.fibers (hV.out.below (hz2.out.below (fun _ _ h => h))).zip.2.2 (hV.out.below (hz2.out.below (fun _ _ h => h))).zip.1 (hV.out.below (hz2.out.below (fun _ _ h => h))).zip.2.1 hS.out.b hS.out.bf).mono ?_); go_must (rintro e w3 ⟨⟨A3, n3, c3⟩, Z3, rfl, ow3, bc3, ba3, hc3⟩); go_must (simp only [svl]); go_must (replace ow3 := Aside0.mk (ow3.mono hsz2.out)); go_must (replace bc3 := Aside0.mk (bc3.mono hsz2.out)); go_must (have g1 := hc3.blk hb12.out (fun h => h)); go_must (have g2 := hc3.blk hb22.out (fun h => h)); go_must (have g3 := hc3.blk hb32.out (fun h => h)); go_must (have y := blk_cell g3 2); go_must (have z := blk_frozen g3 2); go_must (have hs3 := (Chg.refl (fun k => k = b3) w3).setCell (p := ⟨b3, 2, none⟩) (fun _ => rfl) (.slice A3 n3 c3)); go_must (have hb13 := Aside0.mk (hs3.blk g1 (fun h => by have := hbo.out; omega))); go_must (have hb23 := Aside0.mk (hs3.blk g2 (fun h => by have := hbo.out; omega))); go_must (have hb33 := Aside0.mk (blk_set g3 2 (.slice A3 n3 c3))); go_must (have hz3 := Aside0.mk ((hz2.out.trans hc3 (fun _ _ h => h)).trans hs3 (fun k hk h => by have := hbo.out; omega))); go_must (have hsz3 := Aside0.mk (Nat.le_trans hsz2.out (Nat.le_trans hc3.size hs3.size))); go_must (replace ow1 := Aside0.mk ((ow1.out.chg hc3 (fun _ _ h => h)).chg hs3 (fun b hb h => by have := ow1.out.2 b hb; have := hlt.out; omega))); go_must (replace ow2 := Aside0.mk ((ow2.out.chg hc3 (fun _ _ h => h)).chg hs3 (fun b hb h => by have := ow2.out.2 b hb; have := hlt.out; omega))); go_must (replace oc2 := Aside0.mk ((oc2.out.hit hc3 Hits.no).hit hs3 (Hits.old (fun b h => by have := hlt.out; omega)))); go_must (replace bc3 := Aside0.mk (bc3.out.hit hs3 (Hits.old (fun b h => by have := hlt.out; omega)))); go_must (replace ow3 := Aside0.mk (ow3.out.chg hs3 (fun b hb h => by have := ow3.out.2 b hb; have := hlt.out; omega))); go_must (have q0 := blk_cell hb33.out 0); go_must (have q1 := blk_cell hb33.out 1); go_must (have q2 := blk_cell hb33.out 2); go_must (have q3 := blk_cell hb33.out 3); go_must (have q4 := blk_cell hb33.out 4); go_must (have q5 := blk_cell hb33.out 5); go_must (have q6 := blk_cell hb33.out 6); go_must (have t0 := blk_cell hb23.out 0); go_must (have t1 := blk_cell hb23.out 1); go_must (have t2 := blk_cell hb23.out 2); go_must (have t3 := blk_cell hb23.out 3); go_must (have t4 := blk_cell hb23.out 4); go_must (have t5 := blk_cell hb23.out 5); go_must (have t6 := blk_cell hb23.out 6); go_must (have u0 := blk_frozen hb23.out 0); go_must (have u1 := blk_frozen hb23.out 1); go_must (have u2 := blk_frozen hb23.out 2); go_must (have u3 := blk_frozen hb23.out 3); go_must (have u4 := blk_frozen hb23.out 4); go_must (have u5 := blk_frozen hb23.out 5); go_must (have u6 := blk_frozen hb23.out 6); go_must (clear g1 g2 g3 hc3 hs3)))
  (try simp only [Exit.inBlock, Exit.then])
  refine bodyPost_ret (results_cell_row rfl _ _ _ _ _ _ _ rfl (blk_set (blk_set (blk_set (blk_set (blk_set (blk_set (blk_set hb23.out 0 (.slice A1 n1 c1)) 1 (.slice A2 n2 c2)) 2 (.slice A3 n3 c3)) 3 (.int .i64 s.cur)) 4 (.int .i64 s.steps)) 5 (.int .i64 s.spent)) 6 (.int .i64 s.read)) Try.underlying40 rfl (by kernel_rfl)) rfl ?_
  have hfin := (Chg.setCell (Chg.setCell (Chg.setCell (Chg.setCell (Chg.setCell (Chg.setCell (Chg.setCell (Chg.refl (fun k => k = b2) (w3.setCell ⟨b3, 2, none⟩ (.slice A3 n3 c3))) (p := ⟨b2, 0, none⟩) (fun _ => rfl) (.slice A1 n1 c1)) (p := ⟨b2, 1, none⟩) (fun _ => rfl) (.slice A2 n2 c2)) (p := ⟨b2, 2, none⟩) (fun _ => rfl) (.slice A3 n3 c3)) (p := ⟨b2, 3, none⟩) (fun _ => rfl) (.int .i64 s.cur)) (p := ⟨b2, 4, none⟩) (fun _ => rfl) (.int .i64 s.steps)) (p := ⟨b2, 5, none⟩) (fun _ => rfl) (.int .i64 s.spent)) (p := ⟨b2, 6, none⟩) (fun _ => rfl) (.int .i64 s.read))
  have hlo := hz0.out.size
  have hh : ∀ b, b = b2 → b < W0.heap.size := fun b h => by have := hlt.out; have := hbo.out; omega
  refine ⟨(A1, n1, c1), (A2, n2, c2), (A3, n3, c3), ros2, Z3, rfl, ⟨(ow1.out.chg hfin (fun b hb h => by have := ow1.out.2 b hb; have := hh b h; omega)).mono hlo, (ow2.out.chg hfin (fun b hb h => by have := ow2.out.2 b hb; have := hh b h; omega)).mono hlo, (ow3.out.chg hfin (fun b hb h => by have := ow3.out.2 b hb; have := hh b h; omega)).mono hlo, (oc2.out.hit hfin (Hits.old hh)).mono hlo, (bc3.out.hit hfin (Hits.old hh)).mono hlo, ba3⟩, ?_⟩
  exact hz3.out.trans hfin (fun k hk h => by have := hbo.out; omega)
end Go.Proofs.Ytdoghjmanogelaa.K
