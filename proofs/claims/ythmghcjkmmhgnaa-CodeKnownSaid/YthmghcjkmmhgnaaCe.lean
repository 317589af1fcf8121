import Derived.Test.YthmghcjkmmhgnaaCd
import Derived.BigQuiet
namespace Go.Proofs.Ythmghcjkmmhgnaa.K
open Go.RowKit Go.Proofs.YthmghcjkmmhgnaaW.PrintWords Go.Proofs.YthmghcjkmmhgnaaW.PrintLast Go.Proofs.YthmghcjkmmhgnaaW.PrintMore
set_option linter.unusedVariables false
set_option linter.unusedSimpArgs false
set_option maxRecDepth 100000

theorem code_Name (w : World) (op : Int) : Calls Try.prog 27 #[.int .i64 op] w fun e w' => e = .returned (.tuple #[.string (rowP op).name, .bool (okP op)]) ∧ Chg (fun _ => False) w w' := by
  generalize er : rowP op = r
  generalize eb : okP op = b
  have hrow : Aside0 (∀ W, Calls Try.prog 49 #[.int .i64 op] W fun e w' => e = .returned (.tuple #[.agg #[.string r.name, .int .u8 r.kind, .int .u8 r.takes, .int .u8 r.puts, .bool r.many], .bool b]) ∧ Chg (fun _ => False) W w') := ⟨fun W => by have := code_rowOf W op; rw [er, eb] at this; exact this⟩
  clear er eb
  go_enter Try.func27, Try.ntmps27
  go_wp2_with (go_at_call 49; go_must (refine (hrow.out _).mono ?_); go_must (rintro e w1 ⟨rfl, hc1⟩); go_must (replace hc1 := Aside0.mk hc1))
  go_ret2
  exact ⟨rfl, by repeat (first | exact hc1.out | apply Chg.drewN | apply Chg.alloc | (refine Chg.setCell ?_ (fun h => ?_) _))⟩
theorem code_Operand (w : World) (op : Int) : Calls Try.prog 21 #[.int .i64 op] w fun e w' => e = .returned (.tuple #[.int .i64 (rowP op).kind, .bool (okP op)]) ∧ Chg (fun _ => False) w w' := by
  obtain ⟨b0, b1, _, _, _, _⟩ := rowP_bounds op
  generalize er : rowP op = r at b0 b1 ⊢
  generalize eb : okP op = b
  have hrow : Aside0 (∀ W, Calls Try.prog 49 #[.int .i64 op] W fun e w' => e = .returned (.tuple #[.agg #[.string r.name, .int .u8 r.kind, .int .u8 r.takes, .int .u8 r.puts, .bool r.many], .bool b]) ∧ Chg (fun _ => False) W w') := ⟨fun W => by have := code_rowOf W op; rw [er, eb] at this; exact this⟩
  clear er eb
  have hw := i64_small b0 (by omega)
  go_enter Try.func21, Try.ntmps21
  go_wp2_with (go_at_call 49; go_must (refine (hrow.out _).mono ?_); go_must (rintro e w1 ⟨rfl, hc1⟩); go_must (replace hc1 := Aside0.mk hc1))
  go_ret2
  exact ⟨rfl, by repeat (first | exact hc1.out | apply Chg.drewN | apply Chg.alloc | (refine Chg.setCell ?_ (fun h => ?_) _))⟩

theorem kind_gen : ∀ k : Fin 67, k.val ≠ 4 ∧ k.val ≠ 40 ∧ k.val ≠ 41 ∧ k.val ≠ 42 ∧ k.val ≠ 10 ∧ k.val ≠ 11 ∧ k.val ≠ 5 ∧ k.val ≠ 53 ∧ k.val ≠ 54 ∧ k.val ≠ 55 ∧ k.val ≠ 56 ∧ k.val ≠ 6 ∧ k.val ≠ 43 ∧ k.val ≠ 46 ∧ k.val ≠ 47 ∧ k.val ≠ 60 ∧ k.val ≠ 24 ∧ k.val ≠ 62 → (opTab.getD k.val noRow).kind = 0 := by decide +kernel
theorem ref_Operand (w : World) (op : Int) : Calls Try.prog 20 #[.int .i64 op] w fun e w' => e = .returned (.tuple #[.int .i64 (rowP op).kind, .bool (okP op)]) ∧ w' = w := by
  by_cases hneg : op < 0
  · obtain ⟨e1, e2⟩ := rowP_not (op := op) (by omega)
    rw [e1, e2]
    have d0 : decide (op < 0) = true := by simpa using hneg
    clear hneg e1 e2
    go_enter Try.func20, Try.ntmps20
    go_wp2
    go_ret2
    exact ⟨rfl, rfl⟩
  by_cases hbig : 67 ≤ op
  · obtain ⟨e1, e2⟩ := rowP_not (op := op) (by omega)
    rw [e1, e2]
    have d0 : decide (op < 0) = false := by simpa using hneg
    have d1 : decide (67 ≤ op) = true := by simpa using hbig
    clear hneg hbig e1 e2
    go_enter Try.func20, Try.ntmps20
    go_wp2
    go_ret2
    exact ⟨rfl, rfl⟩
  have hb0 : decide (op < 0) = false := by simpa using hneg
  have hb1 : decide (67 ≤ op) = false := by simpa using hbig
  have hgen : Aside0 (op ≠ 4 ∧ op ≠ 40 ∧ op ≠ 41 ∧ op ≠ 42 ∧ op ≠ 10 ∧ op ≠ 11 ∧ op ≠ 5 ∧ op ≠ 53 ∧ op ≠ 54 ∧ op ≠ 55 ∧ op ≠ 56 ∧ op ≠ 6 ∧ op ≠ 43 ∧ op ≠ 46 ∧ op ≠ 47 ∧ op ≠ 60 ∧ op ≠ 24 ∧ op ≠ 62 → (rowP op).kind = 0 ∧ okP op = true) := ⟨by
    intro hn
    obtain ⟨k, rfl⟩ := Int.eq_ofNat_of_zero_le (show 0 ≤ op by omega)
    obtain ⟨e1, e2⟩ := rowP_at (k := k) (by omega)
    rw [e1]
    exact ⟨kind_gen ⟨k, by omega⟩ (by simp only; omega), e2⟩⟩
  clear hneg hbig
  by_cases h4 : op = 4
  · subst h4
    clear hb0 hb1 hgen
    go_enter Try.func20, Try.ntmps20
    go_wp2
    go_ret2
    exact ⟨rfl, rfl⟩
  have d4 : (op == 4) = false := by simpa using h4
  by_cases h40 : op = 40
  · subst h40
    clear hb0 hb1 hgen
    go_enter Try.func20, Try.ntmps20
    go_wp2
    go_ret2
    exact ⟨rfl, rfl⟩
  have d40 : (op == 40) = false := by simpa using h40
  by_cases h41 : op = 41
  · subst h41
    clear hb0 hb1 hgen
    go_enter Try.func20, Try.ntmps20
    go_wp2
    go_ret2
    exact ⟨rfl, rfl⟩
  have d41 : (op == 41) = false := by simpa using h41
  by_cases h42 : op = 42
  · subst h42
    clear hb0 hb1 hgen
    go_enter Try.func20, Try.ntmps20
    go_wp2
    go_ret2
    exact ⟨rfl, rfl⟩
  have d42 : (op == 42) = false := by simpa using h42
  by_cases h10 : op = 10
  · subst h10
    clear hb0 hb1 hgen
    go_enter Try.func20, Try.ntmps20
    go_wp2
    go_ret2
    exact ⟨rfl, rfl⟩
  have d10 : (op == 10) = false := by simpa using h10
  by_cases h11 : op = 11
  · subst h11
    clear hb0 hb1 hgen
    go_enter Try.func20, Try.ntmps20
    go_wp2
    go_ret2
    exact ⟨rfl, rfl⟩
  have d11 : (op == 11) = false := by simpa using h11
  by_cases h5 : op = 5
  · subst h5
    clear hb0 hb1 hgen
    go_enter Try.func20, Try.ntmps20
    go_wp2
    go_ret2
    exact ⟨rfl, rfl⟩
  have d5 : (op == 5) = false := by simpa using h5
  by_cases h53 : op = 53
  · subst h53
    clear hb0 hb1 hgen
    go_enter Try.func20, Try.ntmps20
    go_wp2
    go_ret2
    exact ⟨rfl, rfl⟩
  have d53 : (op == 53) = false := by simpa using h53
  by_cases h54 : op = 54
  · subst h54
    clear hb0 hb1 hgen
    go_enter Try.func20, Try.ntmps20
    go_wp2
    go_ret2
    exact ⟨rfl, rfl⟩
  have d54 : (op == 54) = false := by simpa using h54
  by_cases h55 : op = 55
  · subst h55
    clear hb0 hb1 hgen
    go_enter Try.func20, Try.ntmps20
    go_wp2
    go_ret2
    exact ⟨rfl, rfl⟩
  have d55 : (op == 55) = false := by simpa using h55
  by_cases h56 : op = 56
  · subst h56
    clear hb0 hb1 hgen
    go_enter Try.func20, Try.ntmps20
    go_wp2
    go_ret2
    exact ⟨rfl, rfl⟩
  have d56 : (op == 56) = false := by simpa using h56
  by_cases h6 : op = 6
  · subst h6
    clear hb0 hb1 hgen
    go_enter Try.func20, Try.ntmps20
    go_wp2
    go_ret2
    exact ⟨rfl, rfl⟩
  have d6 : (op == 6) = false := by simpa using h6
  by_cases h43 : op = 43
  · subst h43
    clear hb0 hb1 hgen
    go_enter Try.func20, Try.ntmps20
    go_wp2
    go_ret2
    exact ⟨rfl, rfl⟩
  have d43 : (op == 43) = false := by simpa using h43
  by_cases h46 : op = 46
  · subst h46
    clear hb0 hb1 hgen
    go_enter Try.func20, Try.ntmps20
    go_wp2
    go_ret2
    exact ⟨rfl, rfl⟩
  have d46 : (op == 46) = false := by simpa using h46
  by_cases h47 : op = 47
  · subst h47
    clear hb0 hb1 hgen
    go_enter Try.func20, Try.ntmps20
    go_wp2
    go_ret2
    exact ⟨rfl, rfl⟩
  have d47 : (op == 47) = false := by simpa using h47
  by_cases h60 : op = 60
  · subst h60
    clear hb0 hb1 hgen
    go_enter Try.func20, Try.ntmps20
    go_wp2
    go_ret2
    exact ⟨rfl, rfl⟩
  have d60 : (op == 60) = false := by simpa using h60
  by_cases h24 : op = 24
  · subst h24
    clear hb0 hb1 hgen
    go_enter Try.func20, Try.ntmps20
    go_wp2
    go_ret2
    exact ⟨rfl, rfl⟩
  have d24 : (op == 24) = false := by simpa using h24
  by_cases h62 : op = 62
  · subst h62
    clear hb0 hb1 hgen
    go_enter Try.func20, Try.ntmps20
    go_wp2
    go_ret2
    exact ⟨rfl, rfl⟩
  have d62 : (op == 62) = false := by simpa using h62
  obtain ⟨e1, e2⟩ := hgen.out (by omega)
  rw [e1, e2]
  clear h4 h40 h41 h42 h10 h11 h5 h53 h54 h55 h56 h6 h43 h46 h47 h60 h24 h62 hgen e1 e2
  go_enter Try.func20, Try.ntmps20
  go_wp2
  go_ret2
  exact ⟨rfl, rfl⟩

def refNames : ByteArray := ⟨List.toArray (110 :: 111 :: 112 :: 32 :: 110 :: 105 :: 108 :: 32 :: 116 :: 114 :: 117 :: 101 :: 32 :: 102 :: 97 :: 108 :: 115 :: 101 :: 32 :: 105 :: 110 :: 116 :: 32 :: 99 :: 111 :: 110 :: 115 :: 116 :: 32 :: 102 :: 117 :: 110 :: 99 :: 32 :: 112 :: 111 :: 112 :: 32 :: 100 :: 117 :: 112 :: 32 :: 115 :: 119 :: 97 :: 112 :: 32 :: 108 :: 111 :: 97 :: 100 :: 32 :: 115 :: 116 :: 111 :: 114 :: 101 :: 32 :: 97 :: 100 :: 100 :: 32 :: 115 :: 117 :: 98 :: 32 :: 109 :: 117 :: 108 :: 32 :: 100 :: 105 :: 118 :: 32 :: 114 :: 101 :: 109 :: 32 :: 110 :: 101 :: 103 :: 32 :: 97 :: 110 :: 100 :: 32 :: 111 :: 114 :: 32 :: 120 :: 111 :: 114 :: 32 :: 110 :: 111 :: 116 :: 32 :: 115 :: 104 :: 108 :: 32 :: 115 :: 104 :: 114 :: 32 :: 101 :: 120 :: 116 :: 32 :: 101 :: 113 :: 32 :: 110 :: 101 :: 32 :: 108 :: 116 :: 32 :: 108 :: 101 :: 32 :: 116 :: 101 :: 115 :: 116 :: 32 :: 102 :: 108 :: 105 :: 112 :: 32 :: 116 :: 111 :: 105 :: 110 :: 116 :: 32 :: 116 :: 111 :: 114 :: 101 :: 97 :: 108 :: 32 :: 115 :: 105 :: 110 :: 103 :: 108 :: 101 :: 32 :: 116 :: 111 :: 116 :: 101 :: 120 :: 116 :: 32 :: 107 :: 105 :: 110 :: 100 :: 32 :: 102 :: 108 :: 111 :: 111 :: 114 :: 32 :: 115 :: 113 :: 114 :: 116 :: 32 :: 99 :: 97 :: 116 :: 32 :: 99 :: 117 :: 116 :: 32 :: 106 :: 117 :: 109 :: 112 :: 32 :: 106 :: 122 :: 32 :: 106 :: 110 :: 122 :: 32 :: 99 :: 97 :: 108 :: 108 :: 32 :: 114 :: 101 :: 116 :: 32 :: 116 :: 104 :: 114 :: 111 :: 119 :: 32 :: 98 :: 105 :: 110 :: 100 :: 32 :: 97 :: 114 :: 114 :: 97 :: 121 :: 32 :: 114 :: 101 :: 99 :: 111 :: 114 :: 100 :: 32 :: 103 :: 101 :: 116 :: 32 :: 115 :: 101 :: 116 :: 32 :: 112 :: 117 :: 115 :: 104 :: 32 :: 108 :: 101 :: 110 :: 32 :: 103 :: 101 :: 116 :: 102 :: 32 :: 115 :: 101 :: 116 :: 102 :: 32 :: 104 :: 97 :: 115 :: 102 :: 32 :: 100 :: 101 :: 108 :: 102 :: 32 :: 107 :: 101 :: 121 :: 115 :: 32 :: 112 :: 114 :: 105 :: 110 :: 116 :: 32 :: 114 :: 101 :: 97 :: 100 :: 32 :: 115 :: 112 :: 97 :: 119 :: 110 :: 32 :: 121 :: 105 :: 101 :: 108 :: 100 :: 32 :: 99 :: 104 :: 97 :: 110 :: 32 :: 115 :: 101 :: 110 :: 100 :: 32 :: 114 :: 101 :: 99 :: 118 :: 32 :: 115 :: 104 :: 117 :: 116 :: 32 :: 98 :: 105 :: 99 :: 32 :: [])⟩
def nameB (n : Nat) : Nat := (refNames.data.getD n 0).toNat
/-- Where the blanks are. -/
def nameSp (k : Nat) : Nat := ([3, 7, 12, 18, 22, 28, 33, 37, 41, 46, 51, 57, 61, 65, 69, 73, 77, 81, 85, 88, 92, 96, 100, 104, 108, 111, 114, 117, 120, 125, 130, 136, 143, 150, 157, 162, 168, 173, 177, 181, 186, 189, 193, 198, 202, 208, 213, 219, 226, 230, 234, 239, 243, 248, 253, 258, 263, 268, 274, 279, 285, 291, 296, 301, 306, 311, 315] : List Nat).getD k 400
def nameFrom (k : Nat) : Nat := match k with
  | 0 => 0
  | k + 1 => nameSp k + 1
theorem nameT1 : ∀ k : Fin 67, nameB (nameSp k.val) = 32 ∧ nameSp k.val < 316 ∧ nameFrom k.val ≤ nameSp k.val ∧ (k.val = 66 → nameSp k.val = 315) := by decide +kernel
theorem nameT2 : ∀ k : Fin 67, ∀ n : Fin 316, nameFrom k.val ≤ n.val → n.val < nameSp k.val → nameB n.val ≠ 32 := by decide +kernel
theorem nameT3 (k : Nat) (hk : k < 67) : refNames.extract (nameFrom k) (nameSp k) = (opTab.getD k noRow).name := by
  match k, hk with
| 0, _ => decide +kernel
| 1, _ => decide +kernel
| 2, _ => decide +kernel
| 3, _ => decide +kernel
| 4, _ => decide +kernel
| 5, _ => decide +kernel
| 6, _ => decide +kernel
| 7, _ => decide +kernel
| 8, _ => decide +kernel
| 9, _ => decide +kernel
| 10, _ => decide +kernel
| 11, _ => decide +kernel
| 12, _ => decide +kernel
| 13, _ => decide +kernel
| 14, _ => decide +kernel
| 15, _ => decide +kernel
| 16, _ => decide +kernel
| 17, _ => decide +kernel
| 18, _ => decide +kernel
| 19, _ => decide +kernel
| 20, _ => decide +kernel
| 21, _ => decide +kernel
| 22, _ => decide +kernel
| 23, _ => decide +kernel
| 24, _ => decide +kernel
| 25, _ => decide +kernel
| 26, _ => decide +kernel
| 27, _ => decide +kernel
| 28, _ => decide +kernel
| 29, _ => decide +kernel
| 30, _ => decide +kernel
| 31, _ => decide +kernel
| 32, _ => decide +kernel
| 33, _ => decide +kernel
| 34, _ => decide +kernel
| 35, _ => decide +kernel
| 36, _ => decide +kernel
| 37, _ => decide +kernel
| 38, _ => decide +kernel
| 39, _ => decide +kernel
| 40, _ => decide +kernel
| 41, _ => decide +kernel
| 42, _ => decide +kernel
| 43, _ => decide +kernel
| 44, _ => decide +kernel
| 45, _ => decide +kernel
| 46, _ => decide +kernel
| 47, _ => decide +kernel
| 48, _ => decide +kernel
| 49, _ => decide +kernel
| 50, _ => decide +kernel
| 51, _ => decide +kernel
| 52, _ => decide +kernel
| 53, _ => decide +kernel
| 54, _ => decide +kernel
| 55, _ => decide +kernel
| 56, _ => decide +kernel
| 57, _ => decide +kernel
| 58, _ => decide +kernel
| 59, _ => decide +kernel
| 60, _ => decide +kernel
| 61, _ => decide +kernel
| 62, _ => decide +kernel
| 63, _ => decide +kernel
| 64, _ => decide +kernel
| 65, _ => decide +kernel
| 66, _ => decide +kernel
  | k + 67, h => omega
theorem refNames_size : refNames.size = 316 := by decide +kernel
theorem nameB_at (n : Nat) (h : n < refNames.size) : refNames[n].toNat = nameB n := by
  show refNames.data[n].toNat = _
  unfold nameB
  rw [Array.getD_eq_getD_getElem?, getElem?_pos refNames.data n h]
  rfl
theorem ref_Name (w : World) (op : Int) : Calls Try.prog 26 #[.int .i64 op] w fun e w' => e = .returned (.tuple #[.string (rowP op).name, .bool (okP op)]) ∧ w' = w := by
  go_enter Try.func26, Try.ntmps26
  go_wp2
  go_loopw [4, 5, 6] (fun k f i wr => wr = w ∧ ∃ n m : Nat, i = .int .i64 n ∧ k = .int .i64 m ∧ f = .int .i64 (nameFrom m : Int) ∧ n ≤ 316 ∧ m ≤ 67 ∧ Aside0 (nameFrom m ≤ n ∧ (m < 67 → n ≤ nameSp m) ∧ (m = 67 → n = 316) ∧ ¬ (0 ≤ op ∧ op < m))) (fun _ _ i _ => 316 - (intOf i).toNat)
  case atStart => exact ⟨rfl, 0, 0, rfl, rfl, rfl, by omega, by omega, ⟨by decide, fun _ => by decide, by omega, by omega⟩⟩
  case round =>
    obtain ⟨rfl, n, m, rfl, rfl, rfl, hn, hm, hA⟩ := hrel
    by_cases hlt : n < 316
    · obtain ⟨a1, a2, a3, a4⟩ := hA.out
      have hm67 : m < 67 := by omega
      obtain ⟨t1, t2, t3, t4⟩ := nameT1 ⟨m, hm67⟩
      simp only at t1 t2 t3 t4
      have hle := a2 hm67
      have hk0 : (0 : Int) ≤ n := by omega
      have hk1 : (n : Int) < 316 := by omega
      have hb := nameB_at n (by rw [refNames_size]; exact hlt)
      by_cases hsp : n = nameSp m
      · have d0 : ((refNames[n]'(by rw [refNames_size]; exact hlt)).toNat : Int) = 32 := by rw [hb, hsp, t1]; rfl
        have hext : refNames.extract (nameFrom m) n = (opTab.getD m noRow).name := by rw [hsp]; exact nameT3 m hm67
        have hfm : nameFrom m ≤ n := a1
        have hfs : ((nameFrom (m + 1) : Nat) : Int) = (n : Int) + 1 := by rw [hsp]; rfl
        have hf0 : (0 : Int) ≤ (nameFrom m : Int) := by omega
        have hf1 : (nameFrom m : Int) ≤ n := by omega
        delta refNames at d0
        replace hext := Aside0.mk hext
        replace hfs := Aside0.mk hfs
        have hnext : Aside0 (m + 1 < 67 → n + 1 ≤ nameSp (m + 1)) := ⟨fun h => by have := (nameT1 ⟨m + 1, h⟩).2.2.1; simp only [nameFrom] at this; omega⟩
        have hlast : Aside0 (m + 1 = 67 → n + 1 = 316) := ⟨fun h => by have := t4 (by omega); omega⟩
        replace hsp := Aside0.mk hsp
        clear hb t1 t2 t3 t4 a1 a2 a3 hle
        by_cases heq : op = m
        · subst heq
          have e12 := Aside0.mk (rowP_at (k := m) hm67)
          clear a4
          generalize nameFrom m = p at *
          go_wp2
          go_ret2
          rw [e12.out.1, e12.out.2]
          exact ⟨congrArg (fun s => Ending.returned (.tuple #[.string s, .bool true])) hext.out, rfl⟩
        · have d1 : ((m : Int) == op) = false := by simp; omega
          replace a4 : Aside0 (¬ (0 ≤ op ∧ op < ((m + 1 : Nat) : Int))) := ⟨by omega⟩
          clear heq
          go_wp2
          go_roundw
          case measure => first | (simp [intOf]; done) | (simp [intOf]; omega)
          case rel => exact ⟨by first | trivial | rfl, n + 1, m + 1, by go_num, by go_num, by rw [hfs.out], by omega, by omega, ⟨by have := hfs.out; omega, hnext.out, hlast.out, a4.out⟩⟩
      · have d0 : (((refNames[n]'(by rw [refNames_size]; exact hlt)).toNat : Int) != 32) = true := by
          have := nameT2 ⟨m, hm67⟩ ⟨n, hlt⟩ a1 (by simp only; omega)
          rw [hb]
          simp only [bne_iff_ne, ne_eq]
          simp only at this
          omega
        delta refNames at d0
        have hkeep : Aside0 (nameFrom m ≤ n + 1 ∧ (m < 67 → n + 1 ≤ nameSp m) ∧ (m = 67 → n + 1 = 316) ∧ ¬ (0 ≤ op ∧ op < (m : Int))) := ⟨by omega, by omega, by omega, a4⟩
        clear hb t1 t2 t3 t4 a1 a2 a3 a4 hle hsp
        generalize hp : nameFrom m = p
        replace hp := Aside0.mk hp
        go_wp2
        go_roundw
        case measure => first | (simp [intOf]; done) | (simp [intOf]; omega)
        case rel => exact ⟨by first | trivial | rfl, n + 1, m, by go_num, rfl, by rw [hp.out], by omega, by omega, hkeep⟩
    · obtain rfl : n = 316 := by omega
      obtain ⟨a1, a2, a3, a4⟩ := hA.out
      have e12 := Aside0.mk (rowP_not (op := op) (by
        rcases Nat.lt_or_ge m 67 with h | h
        · have := a2 h; have := (nameT1 ⟨m, h⟩).2.1; simp only at this; omega
        · omega))
      clear a1 a2 a3 a4 hA
      go_wp2
      go_ret2
      rw [e12.out.1, e12.out.2]
      exact ⟨rfl, rfl⟩

end Go.Proofs.Ythmghcjkmmhgnaa.K
