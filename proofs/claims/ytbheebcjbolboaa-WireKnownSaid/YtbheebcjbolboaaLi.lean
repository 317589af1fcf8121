import Derived.Test.YtbheebcjbolboaaLh
import Derived.Lib.SlBytesConst
namespace Go.Proofs.Ytbheebcjbolboaa.K
open Go.RowKit Go.Proofs.YtbheebcjbolboaaW.PrintWords Go.Proofs.YtbheebcjbolboaaW.PrintLast Go.Proofs.YtbheebcjbolboaaW.PrintMore
set_option linter.unusedVariables false
set_option linter.unusedSimpArgs false
set_option maxRecDepth 100000

theorem C_block {w : World} {g : Nat} {cs : Array Value} {t : TypeId} {xs : List Int} {fr : Nat × Nat} (h : w.heap[g]? = some (.cells cs t fr)) (hcs : cs = (xs.map (Value.int .u8)).toArray) (hl : xs.length ≤ 9223372036854775807) : Kd.C (Kd.int .u8) w (some ⟨g, 0, none⟩) xs.length xs := by
  refine ⟨rfl, hl, fun _ => ⟨_, rfl, fun j p hp => ⟨[Value.int .u8 p], rfl, rfl, fun i u hu => ?_⟩⟩⟩
  have hi : i = 0 := by
    rcases Nat.eq_zero_or_pos i with h0 | h0
    · exact h0
    · rw [List.getElem?_eq_none (by simp; omega)] at hu; cases hu
  subst hi
  simp at hu
  subst hu
  have e : (⟨g, 0, none⟩ : Addr).add (j * (Kd.int .u8).sz + 0) = ⟨g, j, none⟩ := by
    show (⟨g, 0, none⟩ : Addr).add (j * 1 + 0) = ⟨g, j, none⟩
    simp [Addr.add]
    intro h0; exact h0.symm
  rw [e, cell_of_row _ _ j cs t fr h, hcs]
  simp [hp]
theorem conv_drewN {P : Program} (w : World) (m : Nat) (t e : TypeId) (C : Array Value) (n c : Nat) (ht : P.underlying t = some (.slice e)) (he : P.underlying e = some (.int .u8)) :
    (convert t t (.slice (some ⟨w.heap.size, 0, none⟩) n c)).run P ((w.drewN m).alloc (.cells C e)) = .ok (.slice (some ⟨w.heap.size, 0, none⟩) n c) ((w.drewN m).alloc (.cells C e (C.size, C.size + 1))) := Lib.run_convert_bytes_const (w.drewN m) t e C n c ht he
theorem C_blockD {w : World} {m : Nat} {cs : Array Value} {t : TypeId} {fr : Nat × Nat} {xs : List Int} (hcs : cs = (xs.map (Value.int .u8)).toArray) (hl : xs.length ≤ 9223372036854775807) : Kd.C (Kd.int .u8) ((w.drewN m).alloc (.cells cs t fr)) (some ⟨w.heap.size, 0, none⟩) xs.length xs :=
  C_block (heap_alloc_new (w.drewN m) _) hcs hl
theorem C_blockN {w : World} {cs : Array Value} {t : TypeId} {fr : Nat × Nat} {xs : List Int} (hcs : cs = (xs.map (Value.int .u8)).toArray) (hl : xs.length ≤ 9223372036854775807) : Kd.C (Kd.int .u8) (w.alloc (.cells cs t fr)) (some ⟨w.heap.size, 0, none⟩) xs.length xs :=
  C_block (heap_alloc_new w _) hcs hl
theorem C_bytesN {w : World} {e : TypeId} {s : ByteArray} {n : Nat} {xs : List Int} (hs : s.size ≤ 140737488355328) (hn : s.size = n) (hx : bytesOf s = xs) : Kd.C (Kd.int .u8) (Lib.bytesWorld w e s) (some ⟨w.heap.size, 0, none⟩) n xs := by subst hn hx; exact C_bytesWorld w s e hs
theorem C_bytesD {w : World} {m : Nat} {e : TypeId} {s : ByteArray} {n : Nat} {xs : List Int} (hs : s.size ≤ 140737488355328) (hn : s.size = n) (hx : bytesOf s = xs) : Kd.C (Kd.int .u8) (Lib.bytesWorld (w.drewN m) e s) (some ⟨w.heap.size, 0, none⟩) n xs := by subst hn hx; exact C_bytesWorld (w.drewN m) s e hs
set_option maxHeartbeats 4000000
theorem law_greatest (w : World) : Calls Try.prog 30 #[] w fun e w' => e = .returned (.bool true) ∧ Chg (fun _ => False) w w' := by
  have hch0 := Aside0.mk (Chg.refl (fun _ => False) w)
  go_enter Try.func30, Try.ntmps30
  have kb1 := fun W => print_bytes (P := Try.prog) 9 25 5 Try.underlying9 Try.underlying25 Try.underlying5 ⟨#[255, 255, 255, 255, 255, 255, 255, 255, 255, 1]⟩ W
  have hadd1 : (⟨#[255, 255, 255, 255, 255, 255, 255, 255, 255]⟩ : ByteArray) ++ ⟨#[1]⟩ = ⟨#[255, 255, 255, 255, 255, 255, 255, 255, 255, 1]⟩ := rfl
  go_wp2_with fail
  (refine (rd_new _ _ 10 _ [255, 255, 255, 255, 255, 255, 255, 255, 255, 1] (C_bytesN (s := ⟨#[255, 255, 255, 255, 255, 255, 255, 255, 255, 1]⟩) (by decide) rfl rfl) (by decide) (by decide)).mono ?_)
  (rintro e w1 ⟨g1, rfl, hg1, hR1, hc1⟩)
  have hgw1 : Aside0 (w.heap.size ≤ g1) := ⟨Nat.le_trans (Chg.size (S := fun _ => False) (by repeat (first | exact hch0.out | apply Chg.drewN | apply Chg.alloc | exact (Chg.trans (b := _) (by first | exact hch0.out | (apply Chg.drewN; exact hch0.out)) (chg_bytesWorld _ _ _) (fun _ _ h => h))))) hg1⟩
  have hch1 : Aside0 (Chg (fun _ => False) w w1) := ⟨Chg.trans (b := _) (by repeat (first | exact hch0.out | apply Chg.drewN | apply Chg.alloc | exact (Chg.trans (b := _) (by first | exact hch0.out | (apply Chg.drewN; exact hch0.out)) (chg_bytesWorld _ _ _) (fun _ _ h => h)))) hc1 (fun _ _ h => h)⟩
  replace hR1 := Aside0.mk hR1
  clear hg1 hc1
  go_wp2_with fail
  (refine (rd_Count _ _ g1 0 [255, 255, 255, 255, 255, 255, 255, 255, 255, 1] 0 9223372036854775807 (by decide) (by decide) (by repeat (first | exact hR1.out | apply Rd.drewN_))).mono ?_)
  (rw [show rrun (pCount [255, 255, 255, 255, 255, 255, 255, 255, 255, 1] 9223372036854775807) 0 0 0 = (0, 0, 5) from by decide +kernel])
  (rintro e w2 ⟨rfl, hR2, hc2⟩)
  have hch2 : Aside0 (Chg (fun _ => False) w w2) := ⟨Chg.trans (b := _) (by repeat (first | exact hch1.out | apply Chg.drewN | apply Chg.alloc | exact (Chg.trans (b := _) (by first | exact hch1.out | (apply Chg.drewN; exact hch1.out)) (chg_bytesWorld _ _ _) (fun _ _ h => h)))) hc2 (fun q hq e => by have := hgw1.out; omega)⟩
  replace hR2 := Aside0.mk hR2
  clear hc2
  go_wp2_with fail
  (refine (rd_Err _ _ g1 0 [255, 255, 255, 255, 255, 255, 255, 255, 255, 1] 5 (by repeat (first | exact hR2.out | apply Rd.drewN_))).mono ?_)
  (rintro e w3 ⟨rfl, rfl⟩)
  go_wp2_with fail
  (refine (rd_Left _ _ g1 0 [255, 255, 255, 255, 255, 255, 255, 255, 255, 1] 5 (by repeat (first | exact hR2.out | apply Rd.drewN_))).mono ?_)
  (rintro e w4 ⟨rfl, nd4, rfl⟩)
  rw [show (([255, 255, 255, 255, 255, 255, 255, 255, 255, 1] : List Int).length : Int) - ((0 : Nat) : Int) = 10 from by decide]
  have hk5 := fun W m => conv_drewN (P := Try.prog) W m 25 5 #[.int .u8 128, .int .u8 128, .int .u8 128, .int .u8 128, .int .u8 128, .int .u8 128, .int .u8 128, .int .u8 128, .int .u8 128, .int .u8 1] 10 10 Try.underlying25 Try.underlying5
  go_wp2_with fail
  (refine (rd_new _ _ 10 _ [128, 128, 128, 128, 128, 128, 128, 128, 128, 1] (C_blockD (xs := [128, 128, 128, 128, 128, 128, 128, 128, 128, 1]) rfl (by decide)) (by decide) (by decide)).mono ?_)
  (rintro e w5 ⟨g5, rfl, hg5, hR5, hc5⟩)
  have hgw5 : Aside0 (w.heap.size ≤ g5) := ⟨Nat.le_trans (Chg.size (S := fun _ => False) (by repeat (first | exact hch2.out | apply Chg.drewN | apply Chg.alloc | exact (Chg.trans (b := _) (by first | exact hch2.out | (apply Chg.drewN; exact hch2.out)) (chg_bytesWorld _ _ _) (fun _ _ h => h))))) hg5⟩
  have hch5 : Aside0 (Chg (fun _ => False) w w5) := ⟨Chg.trans (b := _) (by repeat (first | exact hch2.out | apply Chg.drewN | apply Chg.alloc | exact (Chg.trans (b := _) (by first | exact hch2.out | (apply Chg.drewN; exact hch2.out)) (chg_bytesWorld _ _ _) (fun _ _ h => h)))) hc5 (fun _ _ h => h)⟩
  replace hR5 := Aside0.mk hR5
  clear hg5 hc5
  go_wp2_with fail
  (refine (rd_Text _ _ g5 0 [128, 128, 128, 128, 128, 128, 128, 128, 128, 1] 0 9223372036854775807 (by decide) (by decide) (by repeat (first | exact hR5.out | apply Rd.drewN_))).mono ?_)
  (rw [show rrun (pText [128, 128, 128, 128, 128, 128, 128, 128, 128, 1] 9223372036854775807) [] 0 0 = ([], 0, 5) from by decide +kernel])
  (rintro e w6 ⟨rfl, hR6, hc6⟩)
  have hch6 : Aside0 (Chg (fun _ => False) w w6) := ⟨Chg.trans (b := _) (by repeat (first | exact hch5.out | apply Chg.drewN | apply Chg.alloc | exact (Chg.trans (b := _) (by first | exact hch5.out | (apply Chg.drewN; exact hch5.out)) (chg_bytesWorld _ _ _) (fun _ _ h => h)))) hc6 (fun q hq e => by have := hgw5.out; omega)⟩
  replace hR6 := Aside0.mk hR6
  clear hc6
  dsimp only
  rw [show strOfNums [] = ⟨#[]⟩ from rfl]
  go_wp2_with fail
  (refine (rd_Err _ _ g5 0 [128, 128, 128, 128, 128, 128, 128, 128, 128, 1] 5 (by repeat (first | exact hR6.out | apply Rd.drewN_))).mono ?_)
  (rintro e w7 ⟨rfl, rfl⟩)
  have kb8 := fun W => print_bytes (P := Try.prog) 9 25 5 Try.underlying9 Try.underlying25 Try.underlying5 ⟨#[255, 255, 255, 255, 255, 255, 255, 255, 255, 129, 1]⟩ W
  have hadd8 : (⟨#[255, 255, 255, 255, 255, 255, 255, 255, 255]⟩ : ByteArray) ++ ⟨#[129, 1]⟩ = ⟨#[255, 255, 255, 255, 255, 255, 255, 255, 255, 129, 1]⟩ := rfl
  go_wp2_with fail
  (refine (rd_new _ _ 11 _ [255, 255, 255, 255, 255, 255, 255, 255, 255, 129, 1] (C_bytesN (s := ⟨#[255, 255, 255, 255, 255, 255, 255, 255, 255, 129, 1]⟩) (by decide) rfl rfl) (by decide) (by decide)).mono ?_)
  (rintro e w8 ⟨g8, rfl, hg8, hR8, hc8⟩)
  have hgw8 : Aside0 (w.heap.size ≤ g8) := ⟨Nat.le_trans (Chg.size (S := fun _ => False) (by repeat (first | exact hch6.out | apply Chg.drewN | apply Chg.alloc | exact (Chg.trans (b := _) (by first | exact hch6.out | (apply Chg.drewN; exact hch6.out)) (chg_bytesWorld _ _ _) (fun _ _ h => h))))) hg8⟩
  have hch8 : Aside0 (Chg (fun _ => False) w w8) := ⟨Chg.trans (b := _) (by repeat (first | exact hch6.out | apply Chg.drewN | apply Chg.alloc | exact (Chg.trans (b := _) (by first | exact hch6.out | (apply Chg.drewN; exact hch6.out)) (chg_bytesWorld _ _ _) (fun _ _ h => h)))) hc8 (fun _ _ h => h)⟩
  replace hR8 := Aside0.mk hR8
  clear hg8 hc8
  go_wp2_with fail
  (refine (rd_Uint _ _ g8 0 [255, 255, 255, 255, 255, 255, 255, 255, 255, 129, 1] 0 (by repeat (first | exact hR8.out | apply Rd.drewN_))).mono ?_)
  (rw [show rrun (pNum [255, 255, 255, 255, 255, 255, 255, 255, 255, 129, 1]) 0 0 0 = (0, 0, 4) from by decide +kernel])
  (rintro e w9 ⟨rfl, hR9, hc9⟩)
  have hch9 : Aside0 (Chg (fun _ => False) w w9) := ⟨Chg.trans (b := _) (by repeat (first | exact hch8.out | apply Chg.drewN | apply Chg.alloc | exact (Chg.trans (b := _) (by first | exact hch8.out | (apply Chg.drewN; exact hch8.out)) (chg_bytesWorld _ _ _) (fun _ _ h => h)))) hc9 (fun q hq e => by have := hgw8.out; omega)⟩
  replace hR9 := Aside0.mk hR9
  clear hc9
  go_wp2_with fail
  (refine (rd_Err _ _ g8 0 [255, 255, 255, 255, 255, 255, 255, 255, 255, 129, 1] 4 (by repeat (first | exact hR9.out | apply Rd.drewN_))).mono ?_)
  (rintro e w10 ⟨rfl, rfl⟩)
  go_wp2_with fail
  (refine (rd_Left _ _ g8 0 [255, 255, 255, 255, 255, 255, 255, 255, 255, 129, 1] 4 (by repeat (first | exact hR9.out | apply Rd.drewN_))).mono ?_)
  (rintro e w11 ⟨rfl, nd11, rfl⟩)
  rw [show (([255, 255, 255, 255, 255, 255, 255, 255, 255, 129, 1] : List Int).length : Int) - ((0 : Nat) : Int) = 11 from by decide]
  have kb12 := fun W => print_bytes (P := Try.prog) 9 25 5 Try.underlying9 Try.underlying25 Try.underlying5 ⟨#[255, 255, 255, 255, 255, 255, 255, 255, 255, 2]⟩ W
  have hadd12 : (⟨#[255, 255, 255, 255, 255, 255, 255, 255, 255]⟩ : ByteArray) ++ ⟨#[2]⟩ = ⟨#[255, 255, 255, 255, 255, 255, 255, 255, 255, 2]⟩ := rfl
  go_wp2_with fail
  (refine (rd_new _ _ 10 _ [255, 255, 255, 255, 255, 255, 255, 255, 255, 2] (C_bytesD (s := ⟨#[255, 255, 255, 255, 255, 255, 255, 255, 255, 2]⟩) (by decide) rfl rfl) (by decide) (by decide)).mono ?_)
  (rintro e w12 ⟨g12, rfl, hg12, hR12, hc12⟩)
  have hgw12 : Aside0 (w.heap.size ≤ g12) := ⟨Nat.le_trans (Chg.size (S := fun _ => False) (by repeat (first | exact hch9.out | apply Chg.drewN | apply Chg.alloc | exact (Chg.trans (b := _) (by first | exact hch9.out | (apply Chg.drewN; exact hch9.out)) (chg_bytesWorld _ _ _) (fun _ _ h => h))))) hg12⟩
  have hch12 : Aside0 (Chg (fun _ => False) w w12) := ⟨Chg.trans (b := _) (by repeat (first | exact hch9.out | apply Chg.drewN | apply Chg.alloc | exact (Chg.trans (b := _) (by first | exact hch9.out | (apply Chg.drewN; exact hch9.out)) (chg_bytesWorld _ _ _) (fun _ _ h => h)))) hc12 (fun _ _ h => h)⟩
  replace hR12 := Aside0.mk hR12
  clear hg12 hc12
  go_wp2_with fail
  (refine (rd_Int _ _ g12 0 [255, 255, 255, 255, 255, 255, 255, 255, 255, 2] 0 (by repeat (first | exact hR12.out | apply Rd.drewN_))).mono ?_)
  (rw [show rrun (pNum [255, 255, 255, 255, 255, 255, 255, 255, 255, 2]) 0 0 0 = (0, 0, 4) from by decide +kernel])
  (rintro e w13 ⟨rfl, hR13, hc13⟩)
  have hch13 : Aside0 (Chg (fun _ => False) w w13) := ⟨Chg.trans (b := _) (by repeat (first | exact hch12.out | apply Chg.drewN | apply Chg.alloc | exact (Chg.trans (b := _) (by first | exact hch12.out | (apply Chg.drewN; exact hch12.out)) (chg_bytesWorld _ _ _) (fun _ _ h => h)))) hc13 (fun q hq e => by have := hgw12.out; omega)⟩
  replace hR13 := Aside0.mk hR13
  clear hc13
  go_wp2_with fail
  (refine (rd_Err _ _ g12 0 [255, 255, 255, 255, 255, 255, 255, 255, 255, 2] 4 (by repeat (first | exact hR13.out | apply Rd.drewN_))).mono ?_)
  (rintro e w14 ⟨rfl, rfl⟩)
  have kb15 := fun W => print_bytes (P := Try.prog) 9 25 5 Try.underlying9 Try.underlying25 Try.underlying5 ⟨#[255, 255, 255, 255, 255, 255, 255, 255, 255]⟩ W
  go_wp2_with fail
  (refine (rd_new _ _ 9 _ [255, 255, 255, 255, 255, 255, 255, 255, 255] (C_bytesN (s := ⟨#[255, 255, 255, 255, 255, 255, 255, 255, 255]⟩) (by decide) rfl rfl) (by decide) (by decide)).mono ?_)
  (rintro e w15 ⟨g15, rfl, hg15, hR15, hc15⟩)
  have hgw15 : Aside0 (w.heap.size ≤ g15) := ⟨Nat.le_trans (Chg.size (S := fun _ => False) (by repeat (first | exact hch13.out | apply Chg.drewN | apply Chg.alloc | exact (Chg.trans (b := _) (by first | exact hch13.out | (apply Chg.drewN; exact hch13.out)) (chg_bytesWorld _ _ _) (fun _ _ h => h))))) hg15⟩
  have hch15 : Aside0 (Chg (fun _ => False) w w15) := ⟨Chg.trans (b := _) (by repeat (first | exact hch13.out | apply Chg.drewN | apply Chg.alloc | exact (Chg.trans (b := _) (by first | exact hch13.out | (apply Chg.drewN; exact hch13.out)) (chg_bytesWorld _ _ _) (fun _ _ h => h)))) hc15 (fun _ _ h => h)⟩
  replace hR15 := Aside0.mk hR15
  clear hg15 hc15
  go_wp2_with fail
  (refine (rd_Uint _ _ g15 0 [255, 255, 255, 255, 255, 255, 255, 255, 255] 0 (by repeat (first | exact hR15.out | apply Rd.drewN_))).mono ?_)
  (rw [show rrun (pNum [255, 255, 255, 255, 255, 255, 255, 255, 255]) 0 0 0 = (0, 0, 2) from by decide +kernel])
  (rintro e w16 ⟨rfl, hR16, hc16⟩)
  have hch16 : Aside0 (Chg (fun _ => False) w w16) := ⟨Chg.trans (b := _) (by repeat (first | exact hch15.out | apply Chg.drewN | apply Chg.alloc | exact (Chg.trans (b := _) (by first | exact hch15.out | (apply Chg.drewN; exact hch15.out)) (chg_bytesWorld _ _ _) (fun _ _ h => h)))) hc16 (fun q hq e => by have := hgw15.out; omega)⟩
  replace hR16 := Aside0.mk hR16
  clear hc16
  go_wp2_with fail
  (refine (rd_Err _ _ g15 0 [255, 255, 255, 255, 255, 255, 255, 255, 255] 2 (by repeat (first | exact hR16.out | apply Rd.drewN_))).mono ?_)
  (rintro e w17 ⟨rfl, rfl⟩)
  go_wp2_with fail
  (refine (rd_Left _ _ g15 0 [255, 255, 255, 255, 255, 255, 255, 255, 255] 2 (by repeat (first | exact hR16.out | apply Rd.drewN_))).mono ?_)
  (rintro e w18 ⟨rfl, nd18, rfl⟩)
  rw [show (([255, 255, 255, 255, 255, 255, 255, 255, 255] : List Int).length : Int) - ((0 : Nat) : Int) = 9 from by decide]
  go_wp2_with fail
  go_ret
  exact ⟨by simp, by repeat (first | exact hch16.out | apply Chg.drewN)⟩
set_option maxHeartbeats 4000000
theorem law_known (w : World) : Calls Try.prog 8 #[] w fun e w' => e = .returned (.bool true) ∧ Below w.heap.size w w' := by
  go_enter Try.func8, Try.ntmps8
  go_wp2_with fail
  (refine (law_written _ 0 1 18446744073709551615 ⟨#[]⟩ (by decide) (by decide) (by decide)).mono ?_)
  (rintro e w1 ⟨v1, rfl, hr1, hc1⟩)
  (obtain ⟨A1, n1, cap1, rfl⟩ := R_sl hr1)
  (rw [show wrL 1 18446744073709551615 ⟨#[]⟩ = [255, 255, 255, 255, 255, 255, 255, 255, 255, 1] from by decide] at hr1)
  (obtain ⟨q1, _, qC1⟩ := Kd.R_reads' hr1)
  (obtain rfl : n1 = 10 := q1)
  (clear hr1)
  (replace hc1 := Aside0.mk hc1)
  (replace qC1 := Aside0.mk qC1)
  have hv1_1 := Kd.C_string (P := Try.prog) (c := cap1) Try.underlying25 Try.underlying5 Try.underlying9 (show Kd.C (Kd.int .u8) w1 A1 10 [255, 255, 255, 255, 255, 255, 255, 255, 255, 1] from qC1.out)
  rw [show strOfNums [255, 255, 255, 255, 255, 255, 255, 255, 255, 1] = ⟨#[255, 255, 255, 255, 255, 255, 255, 255, 255, 1]⟩ from rfl] at hv1_1
  go_wp2_with fail
  (refine (law_written _ 0 2 9223372036854775808 ⟨#[]⟩ (by decide) (by decide) (by decide)).mono ?_)
  (rintro e w2 ⟨v2, rfl, hr2, hc2⟩)
  (obtain ⟨A2, n2, cap2, rfl⟩ := R_sl hr2)
  (rw [show wrL 2 9223372036854775808 ⟨#[]⟩ = [255, 255, 255, 255, 255, 255, 255, 255, 255, 1] from by show digs (fold (wrap64 9223372036854775808)) 10 = _; rw [show wrap64 9223372036854775808 = -9223372036854775808 from by unfold wrap64; omega]; decide] at hr2)
  (obtain ⟨q2, _, qC2⟩ := Kd.R_reads' hr2)
  (obtain rfl : n2 = 10 := q2)
  (clear hr2)
  (replace hc2 := Aside0.mk hc2)
  (replace qC2 := Aside0.mk qC2)
  go_wp2_with fail
  (refine (law_written _ 0 2 64 ⟨#[]⟩ (by decide) (by decide) (by decide)).mono ?_)
  (rintro e w3 ⟨v3, rfl, hr3, hc3⟩)
  (obtain ⟨A3, n3, cap3, rfl⟩ := R_sl hr3)
  (rw [show wrL 2 64 ⟨#[]⟩ = [128, 1] from by show digs (fold (wrap64 64)) 10 = _; rw [show wrap64 64 = 64 from by unfold wrap64; omega]; decide] at hr3)
  (obtain ⟨q3, _, qC3⟩ := Kd.R_reads' hr3)
  (obtain rfl : n3 = 2 := q3)
  (clear hr3)
  (replace hc3 := Aside0.mk hc3)
  (replace qC3 := Aside0.mk qC3)
  go_wp2_with fail
  (refine (law_written _ 0 3 258 ⟨#[]⟩ (by decide) (by decide) (by decide)).mono ?_)
  (rintro e w4 ⟨v4, rfl, hr4, hc4⟩)
  (obtain ⟨A4, n4, cap4, rfl⟩ := R_sl hr4)
  (rw [show wrL 3 258 ⟨#[]⟩ = [0, 0, 0, 0, 0, 0, 1, 2] from by decide] at hr4)
  (obtain ⟨q4, _, qC4⟩ := Kd.R_reads' hr4)
  (obtain rfl : n4 = 8 := q4)
  (clear hr4)
  (replace hc4 := Aside0.mk hc4)
  (replace qC4 := Aside0.mk qC4)
  go_wp2_with fail
  (refine (law_written _ 0 4 0 ⟨#[97, 98]⟩ (by decide) (by decide) (by decide)).mono ?_)
  (rintro e w5 ⟨v5, rfl, hr5, hc5⟩)
  (obtain ⟨A5, n5, cap5, rfl⟩ := R_sl hr5)
  (rw [show wrL 4 0 ⟨#[97, 98]⟩ = [2, 97, 98] from by decide] at hr5)
  (obtain ⟨q5, _, qC5⟩ := Kd.R_reads' hr5)
  (obtain rfl : n5 = 3 := q5)
  (clear hr5)
  (replace hc5 := Aside0.mk hc5)
  (replace qC5 := Aside0.mk qC5)
  have hv1_5 := Kd.C_string (P := Try.prog) (c := cap1) Try.underlying25 Try.underlying5 Try.underlying9 (show Kd.C (Kd.int .u8) w5 A1 10 [255, 255, 255, 255, 255, 255, 255, 255, 255, 1] from (C_chg (C_chg (C_chg (C_chg qC1.out (hc2.out.below (fun _ _ h => h))) (hc3.out.below (fun _ _ h => h))) (hc4.out.below (fun _ _ h => h))) (hc5.out.below (fun _ _ h => h))))
  rw [show strOfNums [255, 255, 255, 255, 255, 255, 255, 255, 255, 1] = ⟨#[255, 255, 255, 255, 255, 255, 255, 255, 255, 1]⟩ from rfl] at hv1_5
  have hv2_5 := Kd.C_string (P := Try.prog) (c := cap2) Try.underlying25 Try.underlying5 Try.underlying9 (show Kd.C (Kd.int .u8) w5 A2 10 [255, 255, 255, 255, 255, 255, 255, 255, 255, 1] from (C_chg (C_chg (C_chg qC2.out (hc3.out.below (fun _ _ h => h))) (hc4.out.below (fun _ _ h => h))) (hc5.out.below (fun _ _ h => h))))
  rw [show strOfNums [255, 255, 255, 255, 255, 255, 255, 255, 255, 1] = ⟨#[255, 255, 255, 255, 255, 255, 255, 255, 255, 1]⟩ from rfl] at hv2_5
  have hv3_5 := Kd.C_string (P := Try.prog) (c := cap3) Try.underlying25 Try.underlying5 Try.underlying9 (show Kd.C (Kd.int .u8) w5 A3 2 [128, 1] from (C_chg (C_chg qC3.out (hc4.out.below (fun _ _ h => h))) (hc5.out.below (fun _ _ h => h))))
  rw [show strOfNums [128, 1] = ⟨#[128, 1]⟩ from rfl] at hv3_5
  have hv4_5 := Kd.C_string (P := Try.prog) (c := cap4) Try.underlying25 Try.underlying5 Try.underlying9 (show Kd.C (Kd.int .u8) w5 A4 8 [0, 0, 0, 0, 0, 0, 1, 2] from (C_chg qC4.out (hc5.out.below (fun _ _ h => h))))
  rw [show strOfNums [0, 0, 0, 0, 0, 0, 1, 2] = ⟨#[0, 0, 0, 0, 0, 0, 1, 2]⟩ from rfl] at hv4_5
  have hv5_5 := Kd.C_string (P := Try.prog) (c := cap5) Try.underlying25 Try.underlying5 Try.underlying9 (show Kd.C (Kd.int .u8) w5 A5 3 [2, 97, 98] from qC5.out)
  rw [show strOfNums [2, 97, 98] = ⟨#[2, 97, 98]⟩ from rfl] at hv5_5
  have hch5 := Aside0.mk ((((hc1.out.trans hc2.out (fun _ _ h => h)).trans hc3.out (fun _ _ h => h)).trans hc4.out (fun _ _ h => h)).trans hc5.out (fun _ _ h => h))
  have hk6 := fun W => Lib.run_convert_bytes_const (P := Try.prog) W 25 5 #[.int .u8 2, .int .u8 97, .int .u8 98, .int .u8 99] 4 4 Try.underlying25 Try.underlying5
  go_wp2_with fail
  (refine (rd_new _ _ 4 _ [2, 97, 98, 99] (C_blockN (xs := [2, 97, 98, 99]) rfl (by decide)) (by decide) (by decide)).mono ?_)
  (rintro e w6 ⟨g6, rfl, hg6, hR6, hc6⟩)
  have hgw6 : Aside0 (w.heap.size ≤ g6) := ⟨Nat.le_trans (Chg.size (S := fun _ => False) (by repeat (first | exact hch5.out | apply Chg.drewN | apply Chg.alloc | exact (Chg.trans (b := _) (by first | exact hch5.out | (apply Chg.drewN; exact hch5.out)) (chg_bytesWorld _ _ _) (fun _ _ h => h))))) hg6⟩
  have hch6 : Aside0 (Chg (fun _ => False) w w6) := ⟨Chg.trans (b := _) (by repeat (first | exact hch5.out | apply Chg.drewN | apply Chg.alloc | exact (Chg.trans (b := _) (by first | exact hch5.out | (apply Chg.drewN; exact hch5.out)) (chg_bytesWorld _ _ _) (fun _ _ h => h)))) hc6 (fun _ _ h => h)⟩
  replace hR6 := Aside0.mk hR6
  clear hg6 hc6
  go_wp2_with fail
  (refine (rd_Text _ _ g6 0 [2, 97, 98, 99] 0 2 (by decide) (by decide) (by repeat (first | exact hR6.out | apply Rd.drewN_))).mono ?_)
  (rw [show rrun (pText [2, 97, 98, 99] 2) [] 0 0 = ([97, 98], 3, 0) from by decide +kernel])
  (rintro e w7 ⟨rfl, hR7, hc7⟩)
  have hch7 : Aside0 (Chg (fun _ => False) w w7) := ⟨Chg.trans (b := _) (by repeat (first | exact hch6.out | apply Chg.drewN | apply Chg.alloc | exact (Chg.trans (b := _) (by first | exact hch6.out | (apply Chg.drewN; exact hch6.out)) (chg_bytesWorld _ _ _) (fun _ _ h => h)))) hc7 (fun q hq e => by have := hgw6.out; omega)⟩
  replace hR7 := Aside0.mk hR7
  clear hc7
  dsimp only
  rw [show strOfNums [97, 98] = ⟨#[97, 98]⟩ from rfl]
  go_wp2_with fail
  (refine (rd_Left _ _ g6 3 [2, 97, 98, 99] 0 (by repeat (first | exact hR7.out | apply Rd.drewN_))).mono ?_)
  (rintro e w8 ⟨rfl, nd8, rfl⟩)
  rw [show (([2, 97, 98, 99] : List Int).length : Int) - ((3 : Nat) : Int) = 1 from by decide]
  go_wp2_with fail
  (refine (rd_End _ _ g6 3 [2, 97, 98, 99] 0 (by repeat (first | exact hR7.out | apply Rd.drewN_))).mono ?_)
  (rintro e w9 ⟨rfl, nd9, rfl⟩)
  rw [show rEnd [2, 97, 98, 99] 3 0 = 3 from by decide]
  go_wp2_with fail
  (refine (rd_Byte _ _ g6 3 [2, 97, 98, 99] 0 (by repeat (first | exact hR7.out | apply Rd.drewN_))).mono ?_)
  (rw [show rrun (pNext [2, 97, 98, 99]) 0 3 0 = (99, 4, 0) from by decide +kernel])
  (rintro e w10 ⟨rfl, hR10, hc10⟩)
  have hch10 : Aside0 (Chg (fun _ => False) w w10) := ⟨Chg.trans (b := _) (by repeat (first | exact hch7.out | apply Chg.drewN | apply Chg.alloc | exact (Chg.trans (b := _) (by first | exact hch7.out | (apply Chg.drewN; exact hch7.out)) (chg_bytesWorld _ _ _) (fun _ _ h => h)))) hc10 (fun q hq e => by have := hgw6.out; omega)⟩
  replace hR10 := Aside0.mk hR10
  clear hc10
  go_wp2_with fail
  (refine (rd_End _ _ g6 4 [2, 97, 98, 99] 0 (by repeat (first | exact hR10.out | apply Rd.drewN_))).mono ?_)
  (rintro e w11 ⟨rfl, nd11, rfl⟩)
  rw [show rEnd [2, 97, 98, 99] 4 0 = 0 from by decide]
  have hk12 := fun W m => conv_drewN (P := Try.prog) W m 25 5 #[.int .u8 5, .int .u8 97, .int .u8 98] 3 3 Try.underlying25 Try.underlying5
  go_wp2_with fail
  (refine (rd_new _ _ 3 _ [5, 97, 98] (C_blockD (xs := [5, 97, 98]) rfl (by decide)) (by decide) (by decide)).mono ?_)
  (rintro e w12 ⟨g12, rfl, hg12, hR12, hc12⟩)
  have hgw12 : Aside0 (w.heap.size ≤ g12) := ⟨Nat.le_trans (Chg.size (S := fun _ => False) (by repeat (first | exact hch10.out | apply Chg.drewN | apply Chg.alloc | exact (Chg.trans (b := _) (by first | exact hch10.out | (apply Chg.drewN; exact hch10.out)) (chg_bytesWorld _ _ _) (fun _ _ h => h))))) hg12⟩
  have hch12 : Aside0 (Chg (fun _ => False) w w12) := ⟨Chg.trans (b := _) (by repeat (first | exact hch10.out | apply Chg.drewN | apply Chg.alloc | exact (Chg.trans (b := _) (by first | exact hch10.out | (apply Chg.drewN; exact hch10.out)) (chg_bytesWorld _ _ _) (fun _ _ h => h)))) hc12 (fun _ _ h => h)⟩
  replace hR12 := Aside0.mk hR12
  clear hg12 hc12
  go_wp2_with fail
  (refine (rd_Text _ _ g12 0 [5, 97, 98] 0 4 (by decide) (by decide) (by repeat (first | exact hR12.out | apply Rd.drewN_))).mono ?_)
  (rw [show rrun (pText [5, 97, 98] 4) [] 0 0 = ([], 0, 5) from by decide +kernel])
  (rintro e w13 ⟨rfl, hR13, hc13⟩)
  have hch13 : Aside0 (Chg (fun _ => False) w w13) := ⟨Chg.trans (b := _) (by repeat (first | exact hch12.out | apply Chg.drewN | apply Chg.alloc | exact (Chg.trans (b := _) (by first | exact hch12.out | (apply Chg.drewN; exact hch12.out)) (chg_bytesWorld _ _ _) (fun _ _ h => h)))) hc13 (fun q hq e => by have := hgw12.out; omega)⟩
  replace hR13 := Aside0.mk hR13
  clear hc13
  dsimp only
  rw [show strOfNums [] = ⟨#[]⟩ from rfl]
  go_wp2_with fail
  (refine (rd_Err _ _ g12 0 [5, 97, 98] 5 (by repeat (first | exact hR13.out | apply Rd.drewN_))).mono ?_)
  (rintro e w14 ⟨rfl, rfl⟩)
  go_wp2_with fail
  (refine (rd_Left _ _ g12 0 [5, 97, 98] 5 (by repeat (first | exact hR13.out | apply Rd.drewN_))).mono ?_)
  (rintro e w15 ⟨rfl, nd15, rfl⟩)
  rw [show (([5, 97, 98] : List Int).length : Int) - ((0 : Nat) : Int) = 3 from by decide]
  have hk16 := fun W m => conv_drewN (P := Try.prog) W m 25 5 #[.int .u8 128, .int .u8 0] 2 2 Try.underlying25 Try.underlying5
  go_wp2_with fail
  (refine (rd_new _ _ 2 _ [128, 0] (C_blockD (xs := [128, 0]) rfl (by decide)) (by decide) (by decide)).mono ?_)
  (rintro e w16 ⟨g16, rfl, hg16, hR16, hc16⟩)
  have hgw16 : Aside0 (w.heap.size ≤ g16) := ⟨Nat.le_trans (Chg.size (S := fun _ => False) (by repeat (first | exact hch13.out | apply Chg.drewN | apply Chg.alloc | exact (Chg.trans (b := _) (by first | exact hch13.out | (apply Chg.drewN; exact hch13.out)) (chg_bytesWorld _ _ _) (fun _ _ h => h))))) hg16⟩
  have hch16 : Aside0 (Chg (fun _ => False) w w16) := ⟨Chg.trans (b := _) (by repeat (first | exact hch13.out | apply Chg.drewN | apply Chg.alloc | exact (Chg.trans (b := _) (by first | exact hch13.out | (apply Chg.drewN; exact hch13.out)) (chg_bytesWorld _ _ _) (fun _ _ h => h)))) hc16 (fun _ _ h => h)⟩
  replace hR16 := Aside0.mk hR16
  clear hg16 hc16
  go_wp2_with fail
  (refine (rd_Uint _ _ g16 0 [128, 0] 0 (by repeat (first | exact hR16.out | apply Rd.drewN_))).mono ?_)
  (rw [show rrun (pNum [128, 0]) 0 0 0 = (0, 0, 4) from by decide +kernel])
  (rintro e w17 ⟨rfl, hR17, hc17⟩)
  have hch17 : Aside0 (Chg (fun _ => False) w w17) := ⟨Chg.trans (b := _) (by repeat (first | exact hch16.out | apply Chg.drewN | apply Chg.alloc | exact (Chg.trans (b := _) (by first | exact hch16.out | (apply Chg.drewN; exact hch16.out)) (chg_bytesWorld _ _ _) (fun _ _ h => h)))) hc17 (fun q hq e => by have := hgw16.out; omega)⟩
  replace hR17 := Aside0.mk hR17
  clear hc17
  go_wp2_with fail
  (refine (rd_Left _ _ g16 0 [128, 0] 4 (by repeat (first | exact hR17.out | apply Rd.drewN_))).mono ?_)
  (rintro e w18 ⟨rfl, nd18, rfl⟩)
  rw [show (([128, 0] : List Int).length : Int) - ((0 : Nat) : Int) = 2 from by decide]
  go_wp2_with fail
  (refine (rd_End _ _ g16 0 [128, 0] 4 (by repeat (first | exact hR17.out | apply Rd.drewN_))).mono ?_)
  (rintro e w19 ⟨rfl, nd19, rfl⟩)
  rw [show rEnd [128, 0] 0 4 = 4 from by decide]
  go_wp2_with fail
  (refine (law_greatest _).mono ?_)
  (rintro e w99 ⟨rfl, hc99⟩)
  have hc99A := Aside0.mk hc99
  clear hc99
  go_wp2_with fail
  go_ret
  exact ⟨by simp, (Chg.trans (b := _) (by repeat (first | exact hch17.out | apply Chg.drewN | apply Chg.alloc | exact (Chg.trans (b := _) (by first | exact hch17.out | (apply Chg.drewN; exact hch17.out)) (chg_bytesWorld _ _ _) (fun _ _ h => h)))) hc99A.out (fun _ _ h => h)).below (fun _ _ h => h)⟩

end Go.Proofs.Ytbheebcjbolboaa.K
