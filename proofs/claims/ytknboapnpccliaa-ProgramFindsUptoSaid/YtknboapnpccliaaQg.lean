import Derived.Test.YtknboapnpccliaaQf
import Derived.IntWalk
import Derived.BigQuiet
import Derived.Deep.RegionHeld3
namespace Go.Proofs.Ytknboapnpccliaa.K
open Go.RowKit Go.Proofs.YtknboapnpccliaaW.PrintWords Go.Proofs.YtknboapnpccliaaW.PrintLast Go.Proofs.YtknboapnpccliaaW.PrintMore
set_option linter.unusedVariables false
set_option linter.unusedSimpArgs false
set_option maxRecDepth 100000

theorem fs_take {w : World} {gF n : Nat} {fs : List QR} (h : Kd.C kQR w (some ⟨gF, 0, none⟩) (2 * n + 64) fs) : Kd.C kQR w (some ⟨gF, 0, none⟩) n (fs.take n) := by
  have h1 : fs.length = 2 * n + 64 := h.1
  rw [← h1] at h
  have h2 := Kd.C_take (m := n) h (by omega)
  rwa [List.length_take, Nat.min_eq_left (by omega)] at h2
/-- The names of a program and of its lent form are the same. -/
theorem lent_names {w w' : World} {cA fA : Option Addr} {gC gF : Nat} {p : QP} {rs fs : List QR} (hP : PV w cA fA p rs) (hV : LPV w' gC gF p fs) (s : ByteArray) : findN (fs.take p.funcs.length) s 0 = findN rs s 0 := by
  have h1 : rs.length = p.funcs.length := hP.fs.1
  have h2 : fs.length = 2 * p.funcs.length + 64 := hV.rows.1
  refine findN_names 0 (List.ext_getElem? fun i => ?_)
  rw [List.getElem?_map, List.getElem?_map]
  rcases Nat.lt_or_ge i p.funcs.length with hi | hi
  · rw [List.getElem?_take_of_lt hi]
    obtain ⟨f, hf⟩ : ∃ f, p.funcs[i]? = some f := ⟨_, List.getElem?_eq_getElem hi⟩
    obtain ⟨r, hr⟩ : ∃ r, rs[i]? = some r := ⟨_, List.getElem?_eq_getElem (by omega)⟩
    obtain ⟨q, m, a1, _, a2, _⟩ := hV.hd i f hf
    rw [a1, hr, Option.map_some, Option.map_some, a2, (hP.raw i r f hr hf).1]
  · rw [List.getElem?_eq_none (by rw [List.length_take]; omega), List.getElem?_eq_none (by omega)]
theorem findN_found {s : ByteArray} : ∀ {rs : List QR} {k : Nat} {r : QR} (i : Int), rs[k]? = some r → r.name = s → (findN rs s i).2 = true
  | [], _, _, _, h, _ => by simp at h
  | q :: rs, k, r, i, h, e => by
    rw [findN]
    split
    · rfl
    · next hne =>
      cases k with
      | zero =>
        simp at h
        subst h
        exact absurd e hne
      | succ k => exact findN_found (i + 1) (by simpa using h) e
theorem findN_over {s : ByteArray} {rs : List QR} (h : ∀ k, k < rs.length → ∃ r, rs[k]? = some r ∧ r.name = s) : (findN rs s 0).2 = decide (0 < rs.length) := by
  cases rs with
  | nil => rfl
  | cons q rs =>
    obtain ⟨r, h1, h2⟩ := h 0 (by simp)
    rw [findN_found 0 h1 h2]
    simp
theorem over_take {fs2 : List QR} {n : Nat} {s : ByteArray} (hl : fs2.length = 2 * n + 64) (h : ∀ k, k < n → ∃ r, fs2[k]? = some r ∧ r.name = s) : ∀ k, k < (fs2.take n).length → ∃ r, (fs2.take n)[k]? = some r ∧ r.name = s := fun k hk => by
  have hk' : k < n := by rw [List.length_take] at hk; omega
  rw [List.getElem?_take_of_lt hk']
  exact h k hk'
theorem over_len {fs2 : List QR} {n : Nat} (hl : fs2.length = 2 * n + 64) : (fs2.take n).length = n := by
  rw [List.length_take]
  omega
set_option maxHeartbeats 4000000
theorem law_programFinds (w : World) (cA fA : Option Addr) (cc fc : Nat) (p : QP) (rs : List QR) (s : ByteArray) (hP : PV w cA fA p rs) (hn : p.consts.length ≤ 1048576) (hm : p.funcs.length ≤ 1048576) (hcode : ∀ f ∈ p.funcs, f.code.length ≤ 1048576 ∧ f.hnd.length ≤ 1048576) :
    Calls Try.prog 3 #[.agg #[.slice cA p.consts.length cc, .slice fA p.funcs.length fc], .string s] w fun e w' => e = .returned (.bool true) ∧ Below w.heap.size w w' := by
  have hPA := Aside0.mk hP
  have hco := Aside0.mk hcode
  have hrl := Aside0.mk hP.fs.1
  have hnm : ∀ {w' : World} {gC gF : Nat} {fs : List QR}, LPV w' gC gF p fs → findN (fs.take p.funcs.length) s 0 = findN rs s 0 := fun h => lent_names hP h s
  obtain ⟨⟨fi, fb⟩, hfE⟩ : ∃ x, x = findN rs s 0 := ⟨_, rfl⟩
  clear hP hcode
  go_enter Try.func3, Try.ntmps3
  go_wp2_with (first | (go_at_call 9; go_must (refine (kit_LentProgram _ cA fA cc fc p rs (hPA.out.below (((Chg.refl (fun _ => False) w).alloc _).below (fun _ _ h => h))) hn hm hco.out).mono ?_); go_must (rintro e w1 ⟨gC, gF, c, d, fs, rfl, hcc, hdd, hV, hc1, hO⟩); go_must (have hcc1 : (p.consts.length : Int) + 64 ≤ c := by omega); go_must (have hdd1 : 2 * (p.funcs.length : Int) + 64 ≤ d := by omega); go_must (have hp1 := hc1.blk (heap_alloc_new w (.cells #[.slice cA p.consts.length cc, .slice fA p.funcs.length fc] 25 (0, 0))) (fun h => h)); go_must (have hz1 := ((Chg.refl (fun _ => False) w).alloc (.cells #[.slice cA p.consts.length cc, .slice fA p.funcs.length fc] 25 (0, 0))).trans hc1 (fun _ _ h => h)); go_must (have p0a := cellQ (blk_cell hp1 0) (.cells #[.slice (some ⟨gC, 0, none⟩) p.consts.length c, .slice (some ⟨gF, 0, none⟩) p.funcs.length d] 25 (0, 0))); go_must (have p1a := cellQ (blk_cell hp1 1) (.cells #[.slice (some ⟨gC, 0, none⟩) p.consts.length c, .slice (some ⟨gF, 0, none⟩) p.funcs.length d] 25 (0, 0))); go_must (replace hV := Aside0.mk hV); go_must (replace hO := Aside0.mk hO); go_must (have hp2 := Aside0.mk (((Chg.refl (fun _ => False) w1).alloc (.cells #[.slice (some ⟨gC, 0, none⟩) p.consts.length c, .slice (some ⟨gF, 0, none⟩) p.funcs.length d] 25 (0, 0))).blk hp1 (fun h => h))); go_must (have hq2 := Aside0.mk (heap_alloc_new w1 (.cells #[.slice (some ⟨gC, 0, none⟩) p.consts.length c, .slice (some ⟨gF, 0, none⟩) p.funcs.length d] 25 (0, 0)))); go_must (have hz2 := Aside0.mk (hz1.alloc (.cells #[.slice (some ⟨gC, 0, none⟩) p.consts.length c, .slice (some ⟨gF, 0, none⟩) p.funcs.length d] 25 (0, 0)))); go_must (have hz12 := Aside0.mk ((Chg.refl (fun _ => False) w1).alloc (.cells #[.slice (some ⟨gC, 0, none⟩) p.consts.length c, .slice (some ⟨gF, 0, none⟩) p.funcs.length d] 25 (0, 0)))); go_must (clear hc1 hp1 hz1)) | (go_at_call 10; go_must (refine (ref_FindQ _ cA fA p.consts.length cc p.funcs.length fc rs s (C_chg hPA.out.fs (hz2.out.below (fun _ _ h => h)))).mono ?_); go_must (rintro e w3 ⟨rfl, hc3⟩); go_must (have hz3 := Aside0.mk (hz2.out.trans hc3 (fun _ _ h => h))); go_must (have hz13 := Aside0.mk (hz12.out.trans hc3 (fun _ _ h => h))); go_must (have hp3 := Aside0.mk (hc3.blk hp2.out (fun h => h))); go_must (have hq3 := Aside0.mk (hc3.blk hq2.out (fun h => h))); go_must (have p30 := blk_cell hp3.out 0); go_must (have p31 := blk_cell hp3.out 1); go_must (have q30 := blk_cell hq3.out 0); go_must (have q31 := blk_cell hq3.out 1); go_must (clear hc3 p0a p1a)) | (go_at_call 11; go_must (have hfs3 := (hV.out.below (hz13.out.below (fun _ _ h => h))).rows); go_must (refine (program_Find _ (some ⟨gC, 0, none⟩) (some ⟨gF, 0, none⟩) p.consts.length c p.funcs.length d (fs.take p.funcs.length) s (fs_take hfs3)).mono ?_); go_must (rw [hnm hV.out]); go_must (rintro e w4 ⟨rfl, hc4⟩); go_must (have hz4 := Aside0.mk (hz3.out.trans hc4 (fun _ _ h => h))); go_must (have hz14 := Aside0.mk (hz13.out.trans hc4 (fun _ _ h => h))); go_must (have hp4 := Aside0.mk (hc4.blk hp3.out (fun h => h))); go_must (have hq4 := Aside0.mk (hc4.blk hq3.out (fun h => h))); go_must (have p40 := blk_cell hp4.out 0); go_must (have p41 := blk_cell hp4.out 1); go_must (have q40 := blk_cell hq4.out 0); go_must (have q41 := blk_cell hq4.out 1); go_must (clear hc4 hfs3 p30 p31 q30 q31)) | (go_at_call 12; go_must (refine (kit_KeptProgram _ cA fA gC gF c d cc fc p rs fs (hV.out.below (hz14.out.below (fun _ _ h => h))) hcc hdd (hPA.out.below (hz4.out.below (fun _ _ h => h))) hn hm hco.out).mono ?_); go_must (rintro e w5 ⟨rfl, hc5⟩); go_must (have hz5 := Aside0.mk (hz4.out.trans hc5 (fun _ _ h => h))); go_must (have hz15 := Aside0.mk (hz14.out.trans hc5 (fun _ _ h => h))); go_must (have hp5 := Aside0.mk (hc5.blk hp4.out (fun h => h))); go_must (have hq5 := Aside0.mk (hc5.blk hq4.out (fun h => h))); go_must (have p50 := blk_cell hp5.out 0); go_must (have p51 := blk_cell hp5.out 1); go_must (have q50 := blk_cell hq5.out 0); go_must (have q51 := blk_cell hq5.out 1); go_must (clear hc5 p40 p41 q40 q41)) | fail)
  go_loopw [6, 8, 9, 10] (fun _ _ _ ix wr => ∃ k : Nat, ix = .int .i64 k ∧ k ≤ p.funcs.length ∧ Aside0 (Chg (fun _ => False) w5 wr)) (fun _ _ _ ix _ => p.funcs.length - (intOf ix).toNat)
  case atStart => exact ⟨0, rfl, by omega, ⟨Chg.refl _ _⟩⟩
  case round =>
    obtain ⟨k, rfl, hk, hCh⟩ := hrel
    clear p50 p51 q50 q51
    have hp := Aside0.mk (hCh.out.blk hp5.out (fun h => h))
    have hq := Aside0.mk (hCh.out.blk hq5.out (fun h => h))
    have p0 := blk_cell hp.out 0
    have p1 := blk_cell hp.out 1
    have q0 := blk_cell hq.out 0
    have q1 := blk_cell hq.out 1
    have hzr := Aside0.mk (hz5.out.trans hCh.out (fun _ _ h => h))
    have hz1r := Aside0.mk (hz15.out.trans hCh.out (fun _ _ h => h))
    by_cases hlt : k < p.funcs.length
    · have hk0 : (0 : Int) ≤ k := by omega
      have hk1 : (k : Int) < p.funcs.length := by omega
      obtain ⟨ad, r, e1, e2, x0, _, _, _, _⟩ := raw_at (C_chg hPA.out.fs (hzr.out.below (fun _ _ h => h))) k hlt
      have hfn := findN_found 0 e2 rfl
      obtain ⟨⟨fk, gb⟩, hfk⟩ : ∃ x, findN rs r.name 0 = x := ⟨_, rfl⟩
      rw [hfk] at hfn
      simp only at hfn
      subst hfn
      subst e1
      have hnk : Aside0 (findN (fs.take p.funcs.length) r.name 0 = (fk, true)) := ⟨(lent_names hPA.out hV.out r.name).trans hfk⟩
      replace hfk := Aside0.mk hfk
      clear e2
      go_wp2
      go_region_held3 (fun w' => w'.cell? ⟨w.heap.size, 0, none⟩ = some (.slice cA p.consts.length cc) ∧ w'.cell? ⟨w.heap.size, 1, none⟩ = some (.slice (some ad) p.funcs.length fc) ∧ w'.cell? (ad.add (k * 5)) = some (.string r.name)) (first | with_reducible exact ⟨p0, p1, x0⟩ | with_reducible exact ⟨p60, p61, x60⟩ | go_keep) (first | (go_at_call 10; go_must (refine (ref_FindQ _ cA (some ad) p.consts.length cc p.funcs.length fc rs r.name (C_chg hPA.out.fs (hzr.out.drew.below (fun _ _ h => h)))).mono ?_); go_must (rw [hfk.out]); go_must (rintro e w6 ⟨rfl, hc6⟩); go_must (have hd6 := (Chg.refl (fun _ => False) wr).drew.trans hc6 (fun _ _ h => h)); go_must (have p60 := cell_keepQ hd6 (fun h => h) p0); go_must (have p61 := cell_keepQ hd6 (fun h => h) p1); go_must (have q60 := cell_keepQ hd6 (fun h => h) q0); go_must (have q61 := cell_keepQ hd6 (fun h => h) q1); go_must (have x60 := cell_keepQ hd6 (fun h => h) x0); go_must (have hz16 := Aside0.mk (hz1r.out.trans hd6 (fun _ _ h => h))); go_must (have hz56 := Aside0.mk (hCh.out.trans hd6 (fun _ _ h => h))); go_must (clear hc6 hd6)))
      all_goals (
        go_wp2
        go_region_held3 (fun w' => w'.cell? ⟨w1.heap.size, 0, none⟩ = some (.slice (some ⟨gC, 0, none⟩) p.consts.length c) ∧ w'.cell? ⟨w1.heap.size, 1, none⟩ = some (.slice (some ⟨gF, 0, none⟩) p.funcs.length d) ∧ w'.cell? ⟨w.heap.size, 1, none⟩ = some (.slice (some ad) p.funcs.length fc) ∧ w'.cell? (ad.add (k * 5)) = some (.string r.name)) (first | with_reducible exact ⟨q60, q61, p61, x60⟩ | with_reducible exact ⟨q70, q71, p71, x70⟩ | go_keep) (first | (go_at_call 11; go_must (refine (program_Find _ (some ⟨gC, 0, none⟩) (some ⟨gF, 0, none⟩) p.consts.length c p.funcs.length d (fs.take p.funcs.length) r.name (fs_take (C_chg hV.out.rows (hz16.out.drew.below (fun _ _ h => h))))).mono ?_); go_must (rw [hnk.out]); go_must (rintro e w7 ⟨rfl, hc7⟩); go_must (have hd7 := (Chg.refl (fun _ => False) w6).drew.trans hc7 (fun _ _ h => h)); go_must (have p71 := cell_keepQ hd7 (fun h => h) p61); go_must (have q70 := cell_keepQ hd7 (fun h => h) q60); go_must (have q71 := cell_keepQ hd7 (fun h => h) q61); go_must (have x70 := cell_keepQ hd7 (fun h => h) x60); go_must (have hz57 := Aside0.mk (hz56.out.trans hd7 (fun _ _ h => h))); go_must (clear hc7 hd7)))
        all_goals (
          go_wp2
          go_roundw
          case measure => first | (simp [intOf]; done) | (simp [intOf]; omega)
          case rel => exact ⟨k + 1, by go_num, by omega, hz57⟩))
    · have hk1 : ¬ (k : Int) < p.funcs.length := by omega
      have hke := Aside0.mk (show k = p.funcs.length by omega)
      go_wp2_with (first | (go_at_call 13; go_must (refine (law_turned w1 _ _ gC gF c d p fs hO.out hz1r.out hcc hdd hn hm hco.out).mono ?_); go_must (rintro e w8 ⟨rfl, hc8, fs2, hF2, hov⟩); go_must (have h8p := hc8.blk hp.out (fun h => by have := h.1; first | (simp at this; done) | (simp at this; omega))); go_must (have h8q := hc8.blk hq.out (fun h => Nat.lt_irrefl _ h.2)); go_must (have p81 := blk_cell h8p 1); go_must (have q80 := blk_cell h8q 0); go_must (have q81 := blk_cell h8q 1); go_must (replace hF2 := Aside0.mk hF2); go_must (replace hov := Aside0.mk hov); go_must (replace hc8 := Aside0.mk hc8); go_must (clear h8p h8q)) | (go_at_call 11; go_must (refine (program_Find _ (some ⟨gC, 0, none⟩) (some ⟨gF, 0, none⟩) p.consts.length c p.funcs.length d (fs2.take p.funcs.length) ⟨#[111, 118, 101, 114]⟩ (fs_take hF2.out)).mono ?_); go_must (rw [findN_over (over_take hF2.out.1 hov.out), over_len hF2.out.1]); go_must (rintro e w9 ⟨rfl, hc9⟩); go_must (have p91 := cell_keepQ hc9 (fun h => h) p81); go_must (replace hc9 := Aside0.mk hc9)) | fail)
      go_ret
      refine ⟨by simp, ?_⟩
      have hA : Chg (fun b => w.heap.size ≤ b) w wr := hzr.out.mono (fun _ _ h => h.elim)
      exact ((hA.trans hc8.out (fun _ _ h => by have := h.1; first | (simp at this; omega) | omega)).trans hc9.out (fun _ _ h => h.elim)).below (fun k hk h => by omega)

end Go.Proofs.Ytknboapnpccliaa.K
