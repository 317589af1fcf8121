import Derived.Test.YtgaackedappmgaaDoorQa
import Derived.Test.YtgaackedappmgaaDoorGz
import Derived.IntWalk
import Derived.BigQuiet
import Derived.Maps.OwnSet
import Derived.DeepKeys4
import Derived.KernelRfl
import Derived.Test.YtgaackedappmgaaDoorKa
namespace Go.Proofs.YtgaackedappmgaaDoor.K
open Go.RowKit Go.Proofs.YtgaackedappmgaaDoorW.PrintWords Go.Proofs.YtgaackedappmgaaDoorW.PrintLast Go.Proofs.YtgaackedappmgaaDoorW.PrintMore
set_option linter.unusedVariables false
set_option linter.unusedSimpArgs false
def letterB (b : Int) : Bool := decide (97 ≤ b ∧ b ≤ 122) || decide (65 ≤ b ∧ b ≤ 90) || decide (48 ≤ b ∧ b ≤ 57) || decide (b = 95)
def nanB (n : Int) : Bool := decide (18437736874454810624 < IntKind.u64.wrap (IntKind.u64.wrap n * 2)) && (IntKind.u64.wrap n != 9221120237041090560)
def sameC (a b : QC) : Bool := decide (a.kind = b.kind) && decide (a.n = b.n) && decide (a.text = b.text)
theorem sameC_iff {a b : QC} : sameC a b = true ↔ a = b := by
  obtain ⟨k, n, t⟩ := a
  obtain ⟨k', n', t'⟩ := b
  simp [sameC, and_assoc]
def baseC (c : QC) : Int :=
  if ¬ (c.kind = 3 ∨ c.kind = 4) then 4
  else if c.kind = 3 ∧ (c.text ≠ ByteArray.empty ∨ nanB c.n = true) then 4
  else if c.kind = 4 ∧ c.n ≠ 0 then 4
  else if 4096 < c.text.size then 5 else 0
def constP (l : List QC) (i : Nat) (c : QC) : Int := if baseC c ≠ 0 then baseC c else if (l.take i).any (fun d => sameC d c) then 15 else 0
def firstBad {α : Type} (f : Nat → α → Int) : Nat → List α → Option (Nat × Int)
  | _, [] => none
  | i, x :: xs => if f i x ≠ 0 then some (i, f i x) else firstBad f (i + 1) xs
theorem firstBad_none {α : Type} {f : Nat → α → Int} : ∀ {l : List α} {i : Nat}, (∀ k x, l[k]? = some x → f (i + k) x = 0) → firstBad f i l = none
  | [], i, h => rfl
  | x :: xs, i, h => by
    have h0 := h 0 x rfl
    rw [firstBad, if_neg (by simpa using h0)]
    exact firstBad_none (fun k y hy => by have := h (k + 1) y hy; rwa [show i + (k + 1) = i + 1 + k by omega] at this)
theorem firstBad_at {α : Type} {f : Nat → α → Int} : ∀ {l : List α} {i m : Nat} {x : α}, l[m]? = some x → (∀ k y, k < m → l[k]? = some y → f (i + k) y = 0) → f (i + m) x ≠ 0 → firstBad f i l = some (i + m, f (i + m) x)
  | [], i, m, x, h, _, _ => by cases h
  | y :: ys, i, 0, x, h, _, h2 => by
    cases h
    rw [firstBad, if_pos (by simpa using h2)]
    rfl
  | y :: ys, i, m + 1, x, h, h1, h2 => by
    have h0 := h1 0 y (by omega) rfl
    rw [firstBad, if_neg (by simpa using h0), show i + (m + 1) = i + 1 + m by omega]
    refine firstBad_at h (fun k z hk hz => ?_) (by rwa [show i + (m + 1) = i + 1 + m by omega] at h2)
    have := h1 (k + 1) z (by omega) hz
    rwa [show i + (k + 1) = i + 1 + k by omega] at this
def nameBad (s : ByteArray) : Bool := s.data.toList.any (fun b => !letterB (b.toNat : Int))
def headP (p : QP) (k : Nat) (f : QF) : Int × Int :=
  if nameBad f.name = true then (0, 6)
  else if f.name.size = 0 then (0, 6)
  else if 32 < f.name.size then (0, 5)
  else if (p.funcs.take k).any (fun g => decide (g.name = f.name)) then (0, 15)
  else if f.pars < 0 ∨ f.locs < f.pars ∨ (k = 0 ∧ f.pars ≠ 0) then (0, 1)
  else if 64 < f.locs then (0, 5)
  else if f.code.length = 0 then (0, 2)
  else if 2000 < f.code.length then (2000, 5)
  else (0, 0)
def namesP (p : QP) (f : QF) (i : QI) : Bool :=
  if (rowP i.op).kind = 2 then decide (i.a < f.code.length)
  else if (rowP i.op).kind = 3 then decide (i.a < f.locs)
  else if (rowP i.op).kind = 5 then decide (i.a < p.funcs.length)
  else if (rowP i.op).kind = 4 then
    decide (i.a < p.consts.length) && (decide (i.op = 5) || match p.consts[i.a.toNat]? with | some c => decide (c.kind = 4) | none => false)
  else true
def handlerQ (h : QH) (n : Int) : Bool := decide (0 ≤ h.frm) && (decide (h.frm < h.upto) && (decide (h.upto ≤ n) && (decide (0 ≤ h.tgt) && (decide (h.tgt < n) && (decide (0 ≤ h.hgt) && decide (h.hgt < 64))))))
section
variable (chk : Int → Int → Int)
def instrP (p : QP) (f : QF) (i : QI) : Int := if chk i.op i.a ≠ 0 then chk i.op i.a else if namesP p f i = true then 0 else 8
def functionP (p : QP) (k : Nat) (f : QF) : Int × Int :=
  if (headP p k f).2 ≠ 0 then headP p k f
  else match firstBad (fun _ i => instrP chk p f i) 0 f.code with
    | some (i, e) => ((i : Int), e)
    | none =>
      if 32 < f.hnd.length then (32, 5)
      else match firstBad (fun _ h => if handlerQ h f.code.length = true then 0 else 8) 0 f.hnd with
        | some (i, e) => ((i : Int), e)
        | none => (0, 0)
def funcsP (p : QP) : Nat → List QF → (Int × Int) × Int
  | _, [] => ((0, 0), 0)
  | k, f :: fs => if (functionP chk p k f).2 ≠ 0 then (((k : Int), (functionP chk p k f).1), (functionP chk p k f).2) else funcsP p (k + 1) fs
def checkP (p : QP) : (Int × Int) × Int :=
  if 512 < p.consts.length then ((-1, 512), 5)
  else match firstBad (constP p.consts) 0 p.consts with
    | some (i, e) => ((-1, (i : Int)), e)
    | none =>
      if p.funcs.length = 0 then ((0, 0), 2)
      else if 128 < p.funcs.length then ((128, 0), 5)
      else funcsP chk p 0 p.funcs
end
end Go.Proofs.YtgaackedappmgaaDoor.K

namespace Go.Proofs.YtgaackedappmgaaDoor.K
open Go.Maps Go.RowKit Go.Proofs.YtgaackedappmgaaDoorW.PrintWords Go.Proofs.YtgaackedappmgaaDoorW.PrintLast Go.Proofs.YtgaackedappmgaaDoorW.PrintMore
set_option linter.unusedVariables false
set_option linter.unusedSimpArgs false
set_option maxRecDepth 100000
def MapK (w : World) (tk : TypeId) (m : Nat) (l : List Lit) : Prop := ∃ (n : Nat) (D : DataW Unit), w.ownsMap Tryd.prog tk (plainElem Tryd.prog 3) m n D ∧ n ≤ l.length ∧ Tidy D ∧ ∀ q, Maps.has D q = true ↔ q ∈ l
theorem MapK.made {w : World} {tk : TypeId} {m : Nat} (hb : w.heap[m]? = some (.map #[] 0)) : MapK w tk m [] :=
  ⟨0, .map [], ⟨#[], 0, hb, ⟨by simp, MapKept.stamped_empty 0, by simp⟩, Nat.le_refl _, rfl⟩, Nat.le_refl _, tidy_empty, fun q => by simp [Maps.has]⟩
theorem MapK.lt {w : World} {tk : TypeId} {m : Nat} {l : List Lit} (h : MapK w tk m l) : m < w.heap.size := by
  obtain ⟨n, D, h, _⟩ := h
  exact h.lt
theorem MapK.chg {w w' : World} {tk : TypeId} {m : Nat} {l : List Lit} {S : Nat → Prop} (h : MapK w tk m l) (hc : Chg S w w') (hS : ¬ S m) : MapK w' tk m l := by
  have hm := h.lt
  obtain ⟨n, D, ⟨es, clock, hb, r⟩, h1⟩ := h
  exact ⟨n, D, ⟨es, clock, (hc.block m hm hS).trans hb, r⟩, h1⟩
theorem zeroInt64 (w : World) : (zeroValue 3).run Tryd.prog w = .ok (.int .i64 0) w := by kernel_rfl
theorem wpL_look (w : World) {ops : Array Oper} {rest : List Oper} {o : Oper} {a : Act} {Q : Exit → Act → World → Prop}
    (hg : o.guard = none) (m x : Operand) (t : TypeId) (hop : o.op = Op.lookup t m x true) (k : TypeId) (K : Keyed Tryd.prog k) (ht : Tryd.prog.underlying t = some (.map k 3)) (b : Nat) (l : List Lit)
    (hm : a.eval m = .map (some b)) (hown : MapK w k b l) (key : Value) (kl : Lit) (hx : a.eval x = key) (hkey : keyOf Tryd.prog k key = some kl) (is : Bool) (his : is = true ↔ kl ∈ l)
    (hK : ∀ c : Int, wpList Tryd.prog ops Q rest (a.put o.dst (.tuple #[.int .i64 c, .bool is])) w) : wpList Tryd.prog ops Q (o :: rest) a w := by
  obtain ⟨n, D, h1, h2, h3, h4⟩ := hown
  exact wpList_lookup_own_ok_int (H := Unit) w hg m x t hop k 3 .i64 K ht Tryd.underlying3 (zeroInt64 w) b n D hm h1 key kl hx hkey (fun c _ _ => by
    have : Maps.has D kl = is := by
      cases hh : Maps.has D kl with
      | true => exact (his.2 ((h4 kl).1 hh)).symm
      | false =>
        cases is with
        | true => exact absurd ((h4 kl).2 (his.1 rfl)) (by rw [hh]; decide)
        | false => rfl
    rw [this]
    exact hK c)
theorem wpL_upd (w : World) {ops : Array Oper} {rest : List Oper} {o : Oper} {a : Act} {Q : Exit → Act → World → Prop}
    (hg : o.guard = none) (m x v : Operand) (t : TypeId) (hop : o.op = Op.mapUpdate t m x v) (k : TypeId) (K : Keyed Tryd.prog k) (ht : Tryd.prog.underlying t = some (.map k 3)) (b : Nat) (l : List Lit)
    (hm : a.eval m = .map (some b)) (hown : MapK w k b l) (hn : l.length < maxLen) (key : Value) (i : Int) (kl : Lit) (hx : a.eval x = key) (hv : a.eval v = .int .i64 i) (hkey : keyOf Tryd.prog k key = some kl) (hi : (Lit.int .i64 i).wf = true)
    (hK : ∀ w', MapK w' k b (l ++ [kl]) → w.grownBy w' (some b) → wpList Tryd.prog ops Q rest (a.put o.dst undef) w') : wpList Tryd.prog ops Q (o :: rest) a w := by
  obtain ⟨n, D, h1, h2, h3, h4⟩ := hown
  refine wpList_mapUpdate_own (H := Unit) w hg m x v t hop k 3 K ht (plainElem Tryd.prog 3) b n D hm h1 (by omega) key (.int .i64 i) kl hx hv hkey (.lit (.int .i64 i)) [] (plainElem_int Tryd.underlying3 hi) (fun w' k1 k2 => ?_)
  have hkk := K.key hkey
  refine hK w' ⟨n + 1, _, k1, by rw [List.length_append, List.length_singleton]; omega, h3.put hkk _, fun q => ?_⟩ k2
  by_cases e : q = kl
  · subst e
    rw [has_put_same h3.isMap hkk]
    simp
  · rw [has_put_other e, h4]
    simp [e]
theorem chg_upd {w w' : World} {b : Nat} (h : w.grownBy w' (some b)) : Chg (fun j => j = b) w w' := (Chg.refl (fun j => j = b) w).grown h (fun j _ e => (Option.some.inj e).symm)
theorem keyS {s : ByteArray} (h : s.size ≤ maxLen) : keyOf Tryd.prog 9 (.string s) = some (.string s.data.toList) := by
  simp [keyOf, Tryd.underlying9, mapKey, h]
theorem keyedS : Keyed Tryd.prog 9 := string_keyed Tryd.underlying9
def valC (c : QC) : Value := .agg #[.int .i64 c.kind, .int .i64 c.n, .string c.text]
noncomputable def litC (c : QC) : Lit := (keyOf Tryd.prog 39 (valC c)).getD (.bool true)
theorem laidOutC : laidOutB Tryd.prog = true := by kernel_rfl
theorem lawC : WideMaps.KeyLaw Tryd.prog 39 := deep_law_laid laidOutC (m := 2) (by omega) (of_decide_eq_true (by kernel_rfl)) (by kernel_rfl) (by rw [Tryd.underlying39])
theorem keyedC : Keyed Tryd.prog 39 := Keyed.of_law lawC
theorem cellsC : Tryd.prog.cellsOf 39 = 3 := by kernel_rfl
theorem cellsI : Tryd.prog.cellsOf 3 = 1 := by kernel_rfl
theorem cellsJ : Tryd.prog.cellsOf 2 = 1 := by kernel_rfl
theorem cellsT : Tryd.prog.cellsOf 9 = 1 := by kernel_rfl
theorem keyTypeC : Tryd.prog.keyType 39 = true := by kernel_rfl
structure CWf (c : QC) : Prop where
  kind : (Lit.int .i64 c.kind).wf = true
  n : (Lit.int .i64 c.n).wf = true
  text : c.text.size ≤ maxLen
theorem sizeT : ∃ k, Tryd.prog.types.size = k + 2 := ⟨Tryd.prog.types.size - 2, by have : 2 ≤ Tryd.prog.types.size := of_decide_eq_true (by kernel_rfl); omega⟩
theorem litsI {d : Nat} {n : Int} (h : (Lit.int .i64 n).wf = true) : Tryd.prog.keyLits (d + 1) 3 [.int .i64 n] = some [.int .i64 n] := by
  unfold Program.keyLits
  rw [Tryd.underlying3]
  exact if_pos ⟨rfl, h⟩
theorem litsJ {d : Nat} {n : Int} (h : (Lit.int .i64 n).wf = true) : Tryd.prog.keyLits (d + 1) 2 [.int .i64 n] = some [.int .i64 n] := by
  unfold Program.keyLits
  rw [Tryd.underlying2]
  exact if_pos ⟨rfl, h⟩
theorem litsT {d : Nat} {s : ByteArray} (h : s.size ≤ maxLen) : Tryd.prog.keyLits (d + 1) 9 [.string s] = some [.string s.data.toList] := by
  unfold Program.keyLits
  rw [Tryd.underlying9]
  exact if_pos h
theorem litsC {d : Nat} {c : QC} (h : CWf c) : Tryd.prog.keyLits (d + 2) 39 [.int .i64 c.kind, .int .i64 c.n, .string c.text] = some [.int .i64 c.kind, .int .i64 c.n, .string c.text.data.toList] := by
  unfold Program.keyLits
  rw [Tryd.underlying39]
  refine (if_pos ⟨by rw [cellsC]; rfl, by kernel_rfl⟩).trans ?_
  simp only [List.mapM_cons, List.mapM_nil, List.drop_zero, List.drop_succ_cons, cellsI, cellsJ, cellsT, List.take_succ_cons, List.take_zero, litsI h.kind, litsJ h.n, litsT h.text]
  rfl
theorem keyC {c : QC} (h : CWf c) : keyOf Tryd.prog 39 (valC c) = some (litC c) := by
  have : ∃ l, keyOf Tryd.prog 39 (valC c) = some l := by
    obtain ⟨k, hk⟩ := sizeT
    refine ⟨.string (keyBytes [.int .i64 c.kind, .int .i64 c.n, .string c.text.data.toList]), ?_⟩
    unfold keyOf
    rw [Tryd.underlying39]
    refine (if_pos ?_).trans ?_
    · rw [keyTypeC]
      unfold valC Value.formed
      rw [Tryd.underlying39]
      show (true && (3 == Tryd.prog.cellsOf 39)) = true
      rw [cellsC]
      rfl
    · rw [hk]
      show Option.map _ (Tryd.prog.keyLits (k + 1 + 2) 39 [.int .i64 c.kind, .int .i64 c.n, .string c.text]) = _
      rw [litsC h]
      rfl
  obtain ⟨l, hl⟩ := this
  unfold litC
  rw [hl]
  rfl
theorem litC_inj {c d : QC} (hc : CWf c) (hd : CWf d) (h : litC c = litC d) : c = d := by
  have := lawC.inj (keyC hc) (by rw [h]; exact keyC hd)
  obtain ⟨a1, a2, a3⟩ := c
  obtain ⟨b1, b2, b3⟩ := d
  simpa [valC] using this
theorem litC_mem {l : List QC} {c : QC} (hl : ∀ d ∈ l, CWf d) (hc : CWf c) : l.any (fun d => sameC d c) = true ↔ litC c ∈ l.map litC := by
  rw [List.any_eq_true, List.mem_map]
  constructor
  · rintro ⟨d, hd, he⟩
    exact ⟨d, hd, by rw [sameC_iff.1 he]⟩
  · rintro ⟨d, hd, he⟩
    exact ⟨d, hd, sameC_iff.2 (litC_inj (hl d hd) hc he)⟩
def litS (s : ByteArray) : Lit := .string s.data.toList
theorem litS_mem {l : List QF} {s : ByteArray} : l.any (fun g => decide (g.name = s)) = true ↔ litS s ∈ l.map (fun f => litS f.name) := by
  rw [List.any_eq_true, List.mem_map]
  constructor
  · rintro ⟨g, hg, he⟩
    exact ⟨g, hg, by rw [of_decide_eq_true he]⟩
  · rintro ⟨g, hg, he⟩
    refine ⟨g, hg, decide_eq_true ?_⟩
    simp only [litS, Lit.string.injEq] at he
    exact ByteArray.ext (Array.toList_inj.1 he)
end Go.Proofs.YtgaackedappmgaaDoor.K

namespace Go.Proofs.YtgaackedappmgaaDoor.K
open Go.RowKit Go.Proofs.YtgaackedappmgaaDoorW.PrintWords Go.Proofs.YtgaackedappmgaaDoorW.PrintLast Go.Proofs.YtgaackedappmgaaDoorW.PrintMore
set_option linter.unusedVariables false
set_option linter.unusedSimpArgs false
set_option maxRecDepth 100000
theorem ref_letter (w : World) (c : Int) :
    Calls Tryd.prog 34 #[.int .u8 c] w fun e w' => e = .returned (.bool (letterB c)) ∧ w' = w := by
  have hcs : (c < 48) ∨ (48 ≤ c ∧ c ≤ 57) ∨ (58 ≤ c ∧ c ≤ 64) ∨ (65 ≤ c ∧ c ≤ 90) ∨ (91 ≤ c ∧ c ≤ 94) ∨ (c = 95) ∨ (c = 96) ∨ (97 ≤ c ∧ c ≤ 122) ∨ (123 ≤ c) := by omega
  rcases hcs with h | h | h | h | h | h | h | h | h
  · have c0 : ¬ ((97 : Int) ≤ c) := by omega
    have c1 : (c ≤ 122) := by omega
    have c2 : ¬ ((65 : Int) ≤ c) := by omega
    have c3 : (c ≤ 90) := by omega
    have c4 : ¬ ((48 : Int) ≤ c) := by omega
    have c5 : (c ≤ 57) := by omega
    have c6 : ¬ (c = 95) := by omega
    have he : letterB c = false := by simp [letterB, c0, c1, c2, c3, c4, c5, c6]
    rw [he]
    have c7 : (c == 95) = false := by simpa using c6
    go_enter Tryd.func34, Tryd.ntmps34
    go_wp2
    go_ret
    exact ⟨rfl, rfl⟩
  · have c0 : ¬ ((97 : Int) ≤ c) := by omega
    have c1 : (c ≤ 122) := by omega
    have c2 : ¬ ((65 : Int) ≤ c) := by omega
    have c3 : (c ≤ 90) := by omega
    have c4 : ((48 : Int) ≤ c) := by omega
    have c5 : (c ≤ 57) := by omega
    have c6 : ¬ (c = 95) := by omega
    have he : letterB c = true := by simp [letterB, c0, c1, c2, c3, c4, c5, c6]
    rw [he]
    have c7 : (c == 95) = false := by simpa using c6
    go_enter Tryd.func34, Tryd.ntmps34
    go_wp2
    go_ret
    exact ⟨rfl, rfl⟩
  · have c0 : ¬ ((97 : Int) ≤ c) := by omega
    have c1 : (c ≤ 122) := by omega
    have c2 : ¬ ((65 : Int) ≤ c) := by omega
    have c3 : (c ≤ 90) := by omega
    have c4 : ((48 : Int) ≤ c) := by omega
    have c5 : ¬ (c ≤ 57) := by omega
    have c6 : ¬ (c = 95) := by omega
    have he : letterB c = false := by simp [letterB, c0, c1, c2, c3, c4, c5, c6]
    rw [he]
    have c7 : (c == 95) = false := by simpa using c6
    go_enter Tryd.func34, Tryd.ntmps34
    go_wp2
    go_ret
    exact ⟨rfl, rfl⟩
  · have c0 : ¬ ((97 : Int) ≤ c) := by omega
    have c1 : (c ≤ 122) := by omega
    have c2 : ((65 : Int) ≤ c) := by omega
    have c3 : (c ≤ 90) := by omega
    have c4 : ((48 : Int) ≤ c) := by omega
    have c5 : ¬ (c ≤ 57) := by omega
    have c6 : ¬ (c = 95) := by omega
    have he : letterB c = true := by simp [letterB, c0, c1, c2, c3, c4, c5, c6]
    rw [he]
    have c7 : (c == 95) = false := by simpa using c6
    go_enter Tryd.func34, Tryd.ntmps34
    go_wp2
    go_ret
    exact ⟨rfl, rfl⟩
  · have c0 : ¬ ((97 : Int) ≤ c) := by omega
    have c1 : (c ≤ 122) := by omega
    have c2 : ((65 : Int) ≤ c) := by omega
    have c3 : ¬ (c ≤ 90) := by omega
    have c4 : ((48 : Int) ≤ c) := by omega
    have c5 : ¬ (c ≤ 57) := by omega
    have c6 : ¬ (c = 95) := by omega
    have he : letterB c = false := by simp [letterB, c0, c1, c2, c3, c4, c5, c6]
    rw [he]
    have c7 : (c == 95) = false := by simpa using c6
    go_enter Tryd.func34, Tryd.ntmps34
    go_wp2
    go_ret
    exact ⟨rfl, rfl⟩
  · subst h
    go_enter Tryd.func34, Tryd.ntmps34
    go_wp2
    go_ret
    exact ⟨rfl, rfl⟩
  · subst h
    go_enter Tryd.func34, Tryd.ntmps34
    go_wp2
    go_ret
    exact ⟨rfl, rfl⟩
  · have c0 : ((97 : Int) ≤ c) := by omega
    have c1 : (c ≤ 122) := by omega
    have c2 : ((65 : Int) ≤ c) := by omega
    have c3 : ¬ (c ≤ 90) := by omega
    have c4 : ((48 : Int) ≤ c) := by omega
    have c5 : ¬ (c ≤ 57) := by omega
    have c6 : ¬ (c = 95) := by omega
    have he : letterB c = true := by simp [letterB, c0, c1, c2, c3, c4, c5, c6]
    rw [he]
    have c7 : (c == 95) = false := by simpa using c6
    go_enter Tryd.func34, Tryd.ntmps34
    go_wp2
    go_ret
    exact ⟨rfl, rfl⟩
  · have c0 : ((97 : Int) ≤ c) := by omega
    have c1 : ¬ (c ≤ 122) := by omega
    have c2 : ((65 : Int) ≤ c) := by omega
    have c3 : ¬ (c ≤ 90) := by omega
    have c4 : ((48 : Int) ≤ c) := by omega
    have c5 : ¬ (c ≤ 57) := by omega
    have c6 : ¬ (c = 95) := by omega
    have he : letterB c = false := by simp [letterB, c0, c1, c2, c3, c4, c5, c6]
    rw [he]
    have c7 : (c == 95) = false := by simpa using c6
    go_enter Tryd.func34, Tryd.ntmps34
    go_wp2
    go_ret
    exact ⟨rfl, rfl⟩
theorem ref_nan (w : World) (n : Int) :
    Calls Tryd.prog 35 #[.int .i64 n] w fun e w' => e = .returned (.bool (nanB n)) ∧ w' = w := by
  by_cases h1 : 18437736874454810624 < IntKind.u64.wrap (IntKind.u64.wrap n * 2)
  · have he : nanB n = (IntKind.u64.wrap n != 9221120237041090560) := by simp [nanB, h1]
    rw [he]
    go_enter Tryd.func35, Tryd.ntmps35
    go_wp2
    go_ret
    exact ⟨rfl, rfl⟩
  · have he : nanB n = false := by simp [nanB, h1]
    rw [he]
    go_enter Tryd.func35, Tryd.ntmps35
    go_wp2
    go_ret
    exact ⟨rfl, rfl⟩
end Go.Proofs.YtgaackedappmgaaDoor.K

namespace Go.Proofs.YtgaackedappmgaaDoor.K
open Go.RowKit Go.Proofs.YtgaackedappmgaaDoorW.PrintWords Go.Proofs.YtgaackedappmgaaDoorW.PrintLast Go.Proofs.YtgaackedappmgaaDoorW.PrintMore
set_option linter.unusedVariables false
set_option linter.unusedSimpArgs false
theorem cg {a b : World} (h : Chg (fun _ => False) a b := by
    with_reducible repeat (first | exact Chg.refl _ _ | exact Aside0.out (by assumption) | apply Chg.drewN | apply Chg.drew | apply Chg.alloc | refine Chg.trans ?_ (Aside0.out (by assumption)) (fun _ _ h => h))) : Chg (fun _ => False) a b := h
theorem bl {a b : World} (h : Chg (fun _ => False) a b := by exact cg) : Below a.heap.size a b := h.below (fun _ _ h => h)
theorem cell_chg0 {w w' : World} {p : Addr} {v : Value} (h : w.cell? p = some v) (hc : Chg (fun _ => False) w w') : w'.cell? p = some v := by
  have hb := World.block_lt_of_cell? w p h
  have hk := hc.block p.block hb (fun h => h)
  simpa [World.cell?, hk] using h
theorem blk_chg0 {w w' : World} {g : Nat} {o : Obj} (h : Aside0 (w.heap[g]? = some o)) (hc : Chg (fun _ => False) w w') : w'.heap[g]? = some o := hc.blk h.out (fun h => h)
theorem bk {w : World} {g : Nat} {o : Obj} (h : w.heap[g]? = some o := by
    first | (with_reducible exact Aside0.out (by assumption)) | (with_reducible refine blk_chg0 (by assumption) ?_; exact cg)) : w.heap[g]? = some o := h
theorem kc {w : World} {p : Addr} {v : Value} (h : w.cell? p = some v := by
    first | assumption | (with_reducible refine cell_chg0 (by assumption) ?_; exact cg)) : w.cell? p = some v := h
theorem results_c2 {fn : Func} {c u : Tmp} {t : TypeId} (h : fn.results = #[.cell c t, .tmp u]) (tmps : Array Value) (P : Program) (w : World) (g : Nat) (hp : tmps.getD c undef = .pointer (some ⟨g, 0, none⟩)) (v : Value) (hl : (loadVar t ⟨g, 0, none⟩).run P w = .ok v w) :
    (results fn tmps).run P w = .ok (.tuple #[v, tmps.getD u undef]) w := by
  simp only [results, h]
  rw [Array.getD_eq_getD_getElem?] at hp
  simp [hp, asAddr, hl, Result.andThen]
theorem heap_al3 (w : World) (A B C : Obj) : (((w.alloc A).alloc B).alloc C).heap[w.heap.size + 1 + 1]? = some C := by
  have := heap_alloc_new ((w.alloc A).alloc B) C
  simpa using this
end Go.Proofs.YtgaackedappmgaaDoor.K
