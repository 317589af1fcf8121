import Derived.Test.YtgaackedappmgaaDoorYo
import Derived.Test.YtgaackedappmgaaDoorYq
import Derived.Test.YtgaackedappmgaaDoorQe
import Derived.IntWalk
import Derived.BigQuiet
import Derived.Test.YtgaackedappmgaaDoorQh
import Derived.Test.YtgaackedappmgaaDoorWEqStruct
namespace Go.Proofs.YtgaackedappmgaaDoor.K
open Go.RowKit Go.Proofs.YtgaackedappmgaaDoorW.PrintWords Go.Proofs.YtgaackedappmgaaDoorW.PrintLast Go.Proofs.YtgaackedappmgaaDoorW.PrintMore
set_option linter.unusedVariables false
set_option linter.unusedSimpArgs false
set_option maxRecDepth 100000
def Nr (u u' : Value) : Prop := u' = u ∨ ∃ v v', u = .int .i64 v ∧ u' = .int .i64 v' ∧ (Lit.int .i64 v').wf = true
def Poke (w w' : World) : Prop := ∀ a u, w.cell? a = some u → ∃ u', w'.cell? a = some u' ∧ Nr u u'
theorem Nr.trans {a b c : Value} (h : Nr a b) (k : Nr b c) : Nr a c := by
  rcases h with rfl | ⟨v, v', rfl, rfl, hw⟩
  · exact k
  · rcases k with rfl | ⟨x, x', e, rfl, hw2⟩
    · exact Or.inr ⟨v, v', rfl, rfl, hw⟩
    · exact Or.inr ⟨v, x', rfl, rfl, hw2⟩
theorem Poke.trans {a b c : World} (h : Poke a b) (k : Poke b c) : Poke a c := fun p u hu => by
  obtain ⟨u1, h1, h2⟩ := h p u hu
  obtain ⟨u2, k1, k2⟩ := k p u1 h1
  exact ⟨u2, k1, h2.trans k2⟩
theorem Poke.set {w : World} {p : Addr} {v v' : Int} (h : w.cell? p = some (.int .i64 v)) (hw : (Lit.int .i64 v').wf = true) : Poke w (w.setCell p (.int .i64 v')) := fun a u hu => by
  by_cases e : a = p
  · subst e
    rw [h] at hu
    injection hu with hu
    exact ⟨_, World.cell?_setCell_same w _ _ h, Or.inr ⟨v, v', hu.symm, rfl, hw⟩⟩
  · exact ⟨u, (World.cell?_setCell_other w p a _ (fun h => e h.symm)).trans hu, Or.inl rfl⟩
theorem Nr.int {v : Int} {u' : Value} (h : Nr (.int .i64 v) u') : ∃ v', u' = .int .i64 v' ∧ ((Lit.int .i64 v).wf = true → (Lit.int .i64 v').wf = true) := by
  rcases h with rfl | ⟨x, x', e, rfl, hw⟩
  · exact ⟨v, rfl, id⟩
  · exact ⟨x', rfl, fun _ => hw⟩
theorem Nr.str {s : ByteArray} {u' : Value} (h : Nr (.string s) u') : u' = .string s := by
  rcases h with rfl | ⟨x, x', e, rfl, hw⟩
  · rfl
  · cases e
theorem Nr.sl {A : Option Addr} {n c : Nat} {u' : Value} (h : Nr (.slice A n c) u') : u' = .slice A n c := by
  rcases h with rfl | ⟨x, x', e, rfl, hw⟩
  · rfl
  · cases e
theorem C_poke {α : Type} {d : Kd α} {cells : α → List Value} {w w' : World} {A : Option Addr} {n : Nat} {l : List α} {Q : α → α → Prop} (hK : ∀ (w : World) (p : α) (cs : List Value), d.K w p cs ↔ cs = cells p) (hsz : ∀ p, (cells p).length = d.sz)
    (step : ∀ p (cs : List Value), cs.length = (cells p).length → (∀ (j : Nat) (u : Value), (cells p)[j]? = some u → ∃ u', cs[j]? = some u' ∧ Nr u u') → ∃ p', cells p' = cs ∧ Q p p') (h : d.C w A n l) (hp : Poke w w') :
    ∃ l', d.C w' A n l' ∧ l'.length = l.length ∧ ∀ (i : Nat) (x x' : α), l[i]? = some x → l'[i]? = some x' → Q x x' := by
  obtain ⟨e1, e2, e3⟩ := h
  have hch : ∀ i, i < l.length → ∃ x' : α, (∀ x, l[i]? = some x → Q x x') ∧ ∀ ad, A = some ad → ∀ (j : Nat) (u : Value), (cells x')[j]? = some u → w'.cell? (ad.add (i * d.sz + j)) = some u := by
    intro i hi
    obtain ⟨ad, ea, hc⟩ := e3 (by omega)
    obtain ⟨cs, hl, hk, hcell⟩ := hc i _ (List.getElem?_eq_getElem hi)
    rw [hK] at hk
    subst hk
    have hcs : ∀ j, j < (cells l[i]).length → ∃ u' : Value, w'.cell? (ad.add (i * d.sz + j)) = some u' ∧ ∀ u, (cells l[i])[j]? = some u → Nr u u' := fun j hj => by
      have hu := hcell j _ (List.getElem?_eq_getElem hj)
      obtain ⟨u', h1, h2⟩ := hp _ _ hu
      exact ⟨u', h1, fun u hu2 => by rw [List.getElem?_eq_getElem hj] at hu2; injection hu2 with hu2; rw [← hu2]; exact h2⟩
    obtain ⟨cs', hcl, hcs'⟩ := list_choose (cells l[i]).length hcs
    obtain ⟨x', hx1, hx2⟩ := step l[i] cs' hcl (fun j u hu => by
      have hj := (List.getElem?_eq_some_iff.1 hu).1
      obtain ⟨u', hu'⟩ : ∃ u', cs'[j]? = some u' := ⟨_, List.getElem?_eq_getElem (by omega)⟩
      exact ⟨u', hu', (hcs' j u' hu').2 u hu⟩)
    refine ⟨x', fun x hx => ?_, fun ad' ea' j u hu => ?_⟩
    · rw [List.getElem?_eq_getElem hi] at hx
      injection hx with hx
      rw [← hx]; exact hx2
    · rw [ea] at ea'
      injection ea' with ea'
      subst ea'
      rw [hx1] at hu
      exact (hcs' j u hu).1
  obtain ⟨l', hl', hs⟩ := list_choose l.length hch
  refine ⟨l', ⟨by omega, e2, fun h0 => ?_⟩, hl', fun i x x' hx hx' => (hs i x' hx').1 x hx⟩
  obtain ⟨ad, ea, _⟩ := e3 h0
  exact ⟨ad, ea, fun j x hx => ⟨cells x, hsz x, (hK w' x _).2 rfl, fun i u hu => (hs j x hx).2 ad ea i u hu⟩⟩
def ciQI (p : QI) : List Value := [.int .i64 p.op, .int .i64 p.a]
def ciQH (p : QH) : List Value := [.int .i64 p.frm, .int .i64 p.upto, .int .i64 p.tgt, .int .i64 p.hgt]
def ciQC (p : QC) : List Value := [.int .i64 p.kind, .int .i64 p.n, .string p.text]
theorem QI_poke {w w' : World} {A : Option Addr} {n : Nat} {l : List QI} (h : Kd.C kQI w A n l) (hp : Poke w w') : ∃ l', Kd.C kQI w' A n l' ∧ l'.length = l.length := by
  obtain ⟨l', h1, h2, _⟩ := C_poke (cells := ciQI) (Q := fun _ _ => True) kQI_K (fun _ => rfl) (fun p cs hl hc => by
    match cs, hl with
    | [x, y], _ =>
      obtain ⟨_, e0, h0⟩ := hc 0 _ rfl
      obtain ⟨_, e1, h1⟩ := hc 1 _ rfl
      injection e0 with e0
      injection e1 with e1
      subst e0 e1
      obtain ⟨a, rfl, _⟩ := h0.int
      obtain ⟨b, rfl, _⟩ := h1.int
      exact ⟨⟨a, b⟩, rfl, trivial⟩) h hp
  exact ⟨l', h1, h2⟩
theorem QH_poke {w w' : World} {A : Option Addr} {n : Nat} {l : List QH} (h : Kd.C kQH w A n l) (hp : Poke w w') : ∃ l', Kd.C kQH w' A n l' ∧ l'.length = l.length := by
  obtain ⟨l', h1, h2, _⟩ := C_poke (cells := ciQH) (Q := fun _ _ => True) kQH_K (fun _ => rfl) (fun p cs hl hc => by
    match cs, hl with
    | [x, y, z, t], _ =>
      obtain ⟨_, e0, h0⟩ := hc 0 _ rfl
      obtain ⟨_, e1, h1⟩ := hc 1 _ rfl
      obtain ⟨_, e2, h2⟩ := hc 2 _ rfl
      obtain ⟨_, e3, h3⟩ := hc 3 _ rfl
      injection e0 with e0
      injection e1 with e1
      injection e2 with e2
      injection e3 with e3
      subst e0 e1 e2 e3
      obtain ⟨a, rfl, _⟩ := h0.int
      obtain ⟨b, rfl, _⟩ := h1.int
      obtain ⟨c, rfl, _⟩ := h2.int
      obtain ⟨d, rfl, _⟩ := h3.int
      exact ⟨⟨a, b, c, d⟩, rfl, trivial⟩) h hp
  exact ⟨l', h1, h2⟩
theorem QC_poke {w w' : World} {A : Option Addr} {n : Nat} {l : List QC} (h : Kd.C kQC w A n l) (hp : Poke w w') : ∃ l', Kd.C kQC w' A n l' ∧ l'.length = l.length ∧ ∀ (i : Nat) (x x' : QC), l[i]? = some x → l'[i]? = some x' → CWf x → CWf x' := by
  exact C_poke (cells := ciQC) (Q := fun x x' => CWf x → CWf x') kQC_K (fun _ => rfl) (fun p cs hl hc => by
    match cs, hl with
    | [x, y, z], _ =>
      obtain ⟨_, e0, h0⟩ := hc 0 _ rfl
      obtain ⟨_, e1, h1⟩ := hc 1 _ rfl
      obtain ⟨_, e2, h2⟩ := hc 2 _ rfl
      injection e0 with e0
      injection e1 with e1
      injection e2 with e2
      subst e0 e1 e2
      obtain ⟨a, rfl, ha⟩ := h0.int
      obtain ⟨b, rfl, hb⟩ := h1.int
      obtain rfl := h2.str
      exact ⟨⟨a, b, p.text⟩, rfl, fun hw => ⟨ha hw.kind, hb hw.n, hw.text⟩⟩) h hp
theorem QR_poke {w w' : World} {A : Option Addr} {n : Nat} {l : List QR} (h : Kd.C kQR w A n l) (hp : Poke w w') : ∃ l', Kd.C kQR w' A n l' ∧ l'.length = l.length ∧ ∀ (i : Nat) (x x' : QR), l[i]? = some x → l'[i]? = some x' → x'.name = x.name ∧ x'.code = x.code ∧ x'.hnd = x.hnd := by
  exact C_poke (cells := qrCells) (Q := fun x x' => x'.name = x.name ∧ x'.code = x.code ∧ x'.hnd = x.hnd) kQR_K (fun _ => rfl) (fun p cs hl hc => by
    match cs, hl with
    | [x, y, z, t, s], _ =>
      obtain ⟨_, e0, h0⟩ := hc 0 _ rfl
      obtain ⟨_, e1, h1⟩ := hc 1 _ rfl
      obtain ⟨_, e2, h2⟩ := hc 2 _ rfl
      obtain ⟨_, e3, h3⟩ := hc 3 _ rfl
      obtain ⟨_, e4, h4⟩ := hc 4 _ rfl
      injection e0 with e0
      injection e1 with e1
      injection e2 with e2
      injection e3 with e3
      injection e4 with e4
      subst e0 e1 e2 e3 e4
      obtain rfl := h0.str
      obtain ⟨b, rfl, _⟩ := h1.int
      obtain ⟨c, rfl, _⟩ := h2.int
      obtain rfl := h3.sl
      obtain rfl := h4.sl
      exact ⟨⟨p.name, b, c, p.code, p.hnd⟩, rfl, rfl, rfl, rfl⟩) h hp
theorem PV.poke {w w' : World} {cA fA : Option Addr} {p : QP} {rs : List QR} (h : PV w cA fA p rs) (hw : PWf p) (hp : Poke w w') : ∃ p' rs', PV w' cA fA p' rs' ∧ PWf p' ∧ p'.consts.length = p.consts.length ∧ p'.funcs.length = p.funcs.length := by
  obtain ⟨cs', c1, c2, c3⟩ := QC_poke h.cs hp
  obtain ⟨rs', r1, r2, r3⟩ := QR_poke h.fs hp
  have hrl := h.fs.1
  have hch : ∀ k, k < p.funcs.length → ∃ f' : QF, (∀ r', rs'[k]? = some r' → RawOf w' r' f') ∧ f'.name.size ≤ 140737488351232 ∧ f'.code.length ≤ 1048576 ∧ f'.hnd.length ≤ 1048576 := by
    intro k hk
    obtain ⟨r, hr⟩ : ∃ r, rs[k]? = some r := ⟨_, List.getElem?_eq_getElem (by omega)⟩
    obtain ⟨r', hr'⟩ : ∃ r', rs'[k]? = some r' := ⟨_, List.getElem?_eq_getElem (by omega)⟩
    have hf := List.getElem?_eq_getElem hk
    obtain ⟨a1, a2, a3, a4, a5⟩ := h.raw k r _ hr hf
    obtain ⟨b1, b2, b3⟩ := r3 k r r' hr hr'
    obtain ⟨code', d1, d2⟩ := QI_poke a4 hp
    obtain ⟨hnd', e1, e2⟩ := QH_poke a5 hp
    obtain ⟨s1, s2, s3⟩ := hw.sm.fs _ (List.mem_of_getElem? hf)
    refine ⟨⟨r'.name, r'.pars, r'.locs, code', hnd'⟩, fun r2 hr2 => ?_, ?_, ?_, ?_⟩
    · rw [hr'] at hr2
      injection hr2 with hr2
      subst hr2
      exact ⟨rfl, rfl, rfl, by rw [b2]; exact d1, by rw [b3]; exact e1⟩
    · simp only
      rw [b1, a1]; exact s1
    · simp only
      rw [d2]; exact s2
    · simp only
      rw [e2]; exact s3
  obtain ⟨fs', f1, f2⟩ := list_choose p.funcs.length hch
  refine ⟨⟨cs', fs'⟩, rs', ⟨by rw [c2]; exact c1, by rw [f1]; exact r1, fun k r f hr hf => (f2 k f hf).1 r hr⟩, ⟨⟨by simp only; rw [c2]; exact hw.sm.c, by simp only; rw [f1]; exact hw.sm.f, fun f hf => ?_⟩, fun c hc => ?_⟩, c2, f1⟩
  · obtain ⟨k, hk, he⟩ := List.getElem_of_mem hf
    exact (f2 k f (by rw [List.getElem?_eq_getElem hk, he])).2
  · obtain ⟨k, hk, he⟩ := List.getElem_of_mem hc
    simp only at hk he
    obtain ⟨x, hx⟩ : ∃ x, p.consts[k]? = some x := ⟨_, List.getElem?_eq_getElem (by omega)⟩
    exact c3 k x c hx (by rw [List.getElem?_eq_getElem hk, he]) (hw.cs x (List.mem_of_getElem? hx))
end Go.Proofs.YtgaackedappmgaaDoor.K

namespace Go.Proofs.YtgaackedappmgaaDoor.K
open Go.RowKit Go.Proofs.YtgaackedappmgaaDoorW.PrintWords Go.Proofs.YtgaackedappmgaaDoorW.PrintLast Go.Proofs.YtgaackedappmgaaDoorW.PrintMore
set_option linter.unusedVariables false
set_option linter.unusedSimpArgs false
set_option maxRecDepth 100000
set_option maxHeartbeats 4000000
theorem PV.later {w1 w5 : World} {cA fA : Option Addr} {p : QP} {rs : List QR} (h : PV w1 cA fA p rs) (hw : PWf p) (hp : Poke w1 w5) (hs : w1.heap.size ≤ w5.heap.size) : ∃ p' rs', PWf p' ∧ p'.consts.length = p.consts.length ∧ p'.funcs.length = p.funcs.length ∧ ∀ w', Chg (fun b => w1.heap.size ≤ b) w5 w' → PV w' cA fA p' rs' := by
  let u : World := { w5 with heap := w5.heap.extract 0 w1.heap.size }
  have hu : ∀ k, k < w1.heap.size → u.heap[k]? = w5.heap[k]? := fun k hk => by
    show (w5.heap.extract 0 w1.heap.size)[k]? = _
    rw [Array.getElem?_extract]
    simp [hk, hs]
  have hus : u.heap.size = w1.heap.size := by
    show (w5.heap.extract 0 w1.heap.size).size = _
    rw [Array.size_extract]
    omega
  have hpu : Poke w1 u := fun a v ha => by
    obtain ⟨v', h1, h2⟩ := hp a v ha
    have hb := World.block_lt_of_cell? w1 a ha
    refine ⟨v', ?_, h2⟩
    have := hu a.block hb
    simpa [World.cell?, this] using h1
  obtain ⟨p', rs', h1, h2, h3, h4⟩ := h.poke hw hpu
  refine ⟨p', rs', h2, h3, h4, fun w' hc => h1.below ⟨hc.os, hc.tape, hc.output, by rw [hus]; exact Nat.le_trans hs hc.size, fun k hk => ?_⟩⟩
  rw [hus] at hk
  exact (hc.block k (by omega) (by omega)).trans (hu k hk).symm
theorem LPV.view {w : World} {gC gF : Nat} {p : QP} {fs : List QR} (h : LPV w gC gF p fs) : PV w (some ⟨gC, 0, none⟩) (some ⟨gF, 0, none⟩) p (fs.take p.funcs.length) := by
  refine ⟨C_head h.cs, ?_, fun k r f hr hf => ?_⟩
  · have h0 := h.rows
    have h1 : fs.length = 2 * p.funcs.length + 64 := h0.1
    rw [← h1] at h0
    have h2 := Kd.C_take (m := p.funcs.length) h0 (by omega)
    rwa [List.length_take, Nat.min_eq_left (by omega)] at h2
  · obtain ⟨r', m, a1, a2, a3, a4, a5, a6, a7, a8, a9, a10, a11, a12⟩ := h.hd k f hf
    have hk := (List.getElem?_eq_some_iff.1 hf).1
    rw [List.getElem?_take_of_lt hk] at hr
    rw [a1] at hr
    injection hr with hr
    subst hr
    exact ⟨a3, a4, a5, by rw [a6]; exact C_head a11, by rw [a7]; exact C_head a12⟩
end Go.Proofs.YtgaackedappmgaaDoor.K

namespace Go.Proofs.YtgaackedappmgaaDoor.K
open Go.RowKit Go.Proofs.YtgaackedappmgaaDoorW.PrintWords Go.Proofs.YtgaackedappmgaaDoorW.PrintLast Go.Proofs.YtgaackedappmgaaDoorW.PrintMore
set_option linter.unusedVariables false
set_option linter.unusedSimpArgs false
set_option maxRecDepth 100000
def pickQ (k n : Int) : Int := if n < 1 then 0 else k % n
theorem pickQ_lt {k : Int} {n : Nat} (h : 0 < n) : 0 ≤ pickQ k n ∧ pickQ k n < n := by
  unfold pickQ
  rw [if_neg (by omega)]
  exact ⟨Int.emod_nonneg _ (by omega), Int.emod_lt_of_pos _ (by omega)⟩
theorem kit_PickQ (w : World) (k n : Int) (h0 : -9223372036854775808 ≤ k) (h1 : k ≤ 9223372036854775807) (hn : n ≤ 9223372036854775807) :
    Calls Tryd.prog 17 #[.int .i64 k, .int .i64 n] w fun e w' => e = .returned (.int .i64 (pickQ k n)) ∧ w' = w := by
  by_cases hlt : n < 1
  · have hp : pickQ k n = 0 := by unfold pickQ; rw [if_pos hlt]
    rw [hp]
    go_enter Tryd.func17, Tryd.ntmps17
    go_wp2
    go_ret
    exact ⟨rfl, rfl⟩
  · have hp : pickQ k n = k % n := by unfold pickQ; rw [if_neg hlt]
    have hz : n ≠ 0 := by omega
    rw [hp]
    have b0 := Int.emod_nonneg k hz
    have b1 := Int.emod_lt_of_pos k (show 0 < n by omega)
    by_cases hneg : Int.tmod k n < 0
    · have e1 : Int.tmod k n + n = k % n := by
        have h2 := Int.emod_eq_tmod (a := k) (b := n)
        rw [h2]
        split
        · rename_i hq
          rcases hq with hq | hq
          · exact absurd (Int.tmod_nonneg n hq) (by omega)
          · have := Int.tmod_eq_zero_of_dvd hq; omega
        · omega
      go_enter Tryd.func17, Tryd.ntmps17
      go_wp2
      go_ret
      first | exact ⟨rfl, rfl⟩ | (simp only [e1]; exact ⟨trivial, trivial⟩) | (rw [e1]; exact ⟨rfl, rfl⟩)
    · have e1 : Int.tmod k n = k % n := by
        have h2 := Int.emod_eq_tmod (a := k) (b := n)
        split at h2
        · simpa using h2.symm
        · exfalso
          omega
      rw [e1] at hneg
      go_enter Tryd.func17, Tryd.ntmps17
      go_wp2
      go_ret
      exact ⟨rfl, rfl⟩
theorem set_midQ {α : Type} {l : List α} {a j m : Nat} {u : α} (h : a + m ≤ l.length) (hj : j < m) : l.set (a + j) u = l.take a ++ ((l.drop a).take m).set j u ++ l.drop (a + m) := by
  conv => lhs; rw [← List.take_append_drop a l, List.set_append_right _ _ (by rw [List.length_take]; omega), List.length_take, ← List.take_append_drop m (l.drop a)]
  rw [show a + j - min a l.length = j by omega, List.set_append_left _ _ (by rw [List.length_take, List.length_drop]; omega), List.drop_drop, List.append_assoc]
theorem Oq.put {α : Type} {kd : Kd α} {cells : α → List Value} {e : TypeId} {w : World} {lo g n c i j m : Nat} {xs : List α} {r r' : α} {u : Value} (hK : ∀ (w : World) (p : α) (cs : List Value), kd.K w p cs ↔ cs = cells p) (hM : ∀ (w : World) (base : Nat) (ok : Nat → Prop) (p : α), kd.M w base ok p (cells p)) (hm : kd.sz = m)
    (h : Oq kd e w lo (some ⟨g, 0, none⟩, n, c) xs) (hx : xs[i]? = some r) (hr : cells r' = (cells r).set j u) (hj : j < m) : Oq kd e (w.setCell ⟨g, i * m + j, none⟩ u) lo (some ⟨g, 0, none⟩, n, c) (xs.set i r') := by
  subst hm
  obtain ⟨⟨h0, inner, ho, hrp⟩, h2⟩ := h
  have hi := (List.getElem?_eq_some_iff.1 hx).1
  refine ⟨?_, h2⟩
  rcases ho.2 with ⟨h1, _⟩ | ⟨g', cap', cur, hv, _, hg, hnc, hcm, hcs, ht⟩
  · cases h1
  · unfold svl at hv
    injection hv with e1 e2 e3
    injection e1 with e1
    injection e1 with e1 _ _
    simp only at e2 e3
    subst e1 e3
    have hl : inner.length = xs.length * kd.sz := ho.1
    have hfit : i * kd.sz + kd.sz ≤ inner.length := by rw [hl, ← Nat.succ_mul]; exact Nat.mul_le_mul_right _ hi
    have hb := blk_set hg (i * kd.sz + j) u
    have hseg : (inner.drop (i * kd.sz)).take kd.sz = cells r := (hK _ _ _).1 (kd.K_of_M (hrp.2 i r hx))
    have hcl : (cells r).length = kd.sz := by rw [← hseg, List.length_take, List.length_drop]; omega
    refine ⟨h0, inner.set (i * kd.sz + j) u, ⟨?_, ?_⟩, ?_⟩
    · rw [List.length_set, List.length_set]; exact ho.1
    · right
      refine ⟨g, c, _, by rw [List.length_set, ← e2]; rfl, Nat.zero_le _, hb, by rw [List.length_set, ← e2]; rw [e2]; exact hnc, hcm, by rw [Array.size_setIfInBounds]; exact hcs, ?_⟩
      rw [List.length_set]
      show List.take _ _ = _
      rw [Array.toList_setIfInBounds, List.take_set, ht]
    · rw [set_midQ (by omega) hj, hseg, ← hr]
      have hl2 : (cells r').length = kd.sz := by rw [hr, List.length_set, hcl]
      have := Kd.reps_set (hrp.imp_ (R' := kd.M (w.setCell ⟨g, i * kd.sz + j, none⟩ u) 0 (fun k => (fun k => some k = (svl (some ⟨g, 0, none⟩, n, c)).ownBlock) k ∧ some k ≠ (svl (some ⟨g, 0, none⟩, n, c)).ownBlock)) (fun p c hp => by rw [(hK _ _ _).1 (kd.K_of_M hp)]; exact hM _ _ _ _)) (i := i) hi (x := r') (seg := cells r') (hM _ _ _ _) hl2
      rw [hl2] at this
      exact this
theorem eqAPq (d : Nat) (w : World) (x0 y0 x1 y1 : Int) :
    (Op.equalIn (d + 2) 28 (.agg #[.int .i64 x0, .int .i64 x1]) (.agg #[.int .i64 y0, .int .i64 y1])).run Tryd.prog w = .ok (x0 == y0 && (x1 == y1)) w := by
  refine eqA_of Tryd.underlying28 (by kernel_rfl) ?_
  refine eqf_cons (by rfl) (by go_simp; rfl) (by go_simp; rfl) (by go_simp) ?_
  exact eqf_last (by rfl) (by go_simp; rfl) (by go_simp; rfl) (by go_simp)
attribute [local go_sem high] eqAPq
set_option maxHeartbeats 4000000
theorem law_fits (w : World) (cA fA : Option Addr) (cc fc : Nat) (p : QP) (rs : List QR) (b : Bool) (hV : PV w cA fA p rs) (hs : PSm p) (hb : ((checkP chkP p).2 == 0) = b) :
    Calls Tryd.prog 15 #[.agg #[.slice cA p.consts.length cc, .slice fA p.funcs.length fc]] w fun e w' => e = .returned (.bool b) ∧ Chg (fun _ => False) w w' := by
  have hVA := Aside0.mk hV
  have hS := Aside0.mk hs
  rcases hq : checkP chkP p with ⟨⟨z1, z2⟩, z3⟩
  rw [hq] at hb
  simp only at hb
  have hqA := Aside0.mk hq
  clear hV hs hq
  go_enter Tryd.func15, Tryd.ntmps15
  go_upto_region 1 with (fail)
  (try simp only [Act.put, List.setIfInBounds_toArray, List.set_cons_zero, List.set_cons_succ])
  generalize hW : World.alloc w _ = W0
  have B1 : Aside0 (W0.heap[w.heap.size]? = some (.cells #[.slice cA p.consts.length cc, .slice fA p.funcs.length fc] 25)) := ⟨by rw [← hW]; exact heap_alloc_new w _⟩
  have hz0 : Aside0 (Chg (fun _ => False) w W0) := ⟨by rw [← hW]; exact cg⟩
  clear hW
  have p0 : W0.cell? ⟨w.heap.size, 0, none⟩ = some (.slice cA p.consts.length cc) := blk_cell B1.out 0
  have p1 : W0.cell? ⟨w.heap.size, 1, none⟩ = some (.slice fA p.funcs.length fc) := blk_cell B1.out 1
  go_wp2_with (go_at_call 9; go_must (refine (ref_Check8 W0 cA fA cc fc p rs (hVA.out.below (hz0.out.below (fun _ _ h => h))) hS.out).mono ?_); go_must (rintro e w1 ⟨rfl, hc1⟩); go_must (rw [hqA.out]); go_must (replace hc1 := Aside0.mk hc1))
  go_ret
  exact ⟨by first | rfl | (rw [hb]; rfl) | (simp [hb]; done), cg⟩
theorem law_found (w : World) (cA fA : Option Addr) (cc fc : Nat) (p : QP) (rs : List QR) (fn pc e0 : Int) (hV : PV w cA fA p rs) (hp : PWf p) (hE : w.cell? ⟨0, 0, none⟩ = some (.iface 114 (.agg #[.pointer (some ⟨2, 68, none⟩)]))) (hq : checkP chkP p = ((fn, pc), e0)) :
    Calls Tryd.prog 16 #[.agg #[.slice cA p.consts.length cc, .slice fA p.funcs.length fc], .int .i64 e0, .int .i64 fn, .int .i64 pc] w fun e w' => e = .returned (.bool true) ∧ Chg (fun _ => False) w w' := by
  have hVA := Aside0.mk hV
  have hPA := Aside0.mk hp
  have hEA := Aside0.mk hE
  have hqA := Aside0.mk hq
  clear hV hp hE hq
  go_enter Tryd.func16, Tryd.ntmps16
  go_upto_region 1 with (fail)
  (try simp only [Act.put, List.setIfInBounds_toArray, List.set_cons_zero, List.set_cons_succ])
  generalize hW : World.alloc w _ = W0
  have B1 : Aside0 (W0.heap[w.heap.size]? = some (.cells #[.slice cA p.consts.length cc, .slice fA p.funcs.length fc] 25)) := ⟨by rw [← hW]; exact heap_alloc_new w _⟩
  have hz0 : Aside0 (Chg (fun _ => False) w W0) := ⟨by rw [← hW]; exact cg⟩
  clear hW
  have p0 : W0.cell? ⟨w.heap.size, 0, none⟩ = some (.slice cA p.consts.length cc) := blk_cell B1.out 0
  have p1 : W0.cell? ⟨w.heap.size, 1, none⟩ = some (.slice fA p.funcs.length fc) := blk_cell B1.out 1
  go_upto_region 2 with (go_at_call 10; go_must (refine (prog_Check W0 cA fA cc fc p rs (hVA.out.below (hz0.out.below (fun _ _ h => h))) hPA.out (cell_chg0 hEA.out hz0.out)).mono ?_); go_must (rintro e w1 ⟨rfl, hc1⟩); go_must (rw [hqA.out]); go_must (replace hc1 := Aside0.mk hc1))
  (try simp only [Act.put, List.setIfInBounds_toArray, List.set_cons_zero, List.set_cons_succ])
  generalize hW : World.alloc w1 _ = W1
  have B2 : Aside0 (W1.heap[w1.heap.size]? = some (.cells #[.int .i64 fn, .int .i64 pc] 28)) := ⟨by rw [← hW]; exact heap_alloc_new w1 _⟩
  have hz2 : Aside0 (Chg (fun _ => False) w1 W1) := ⟨by rw [← hW]; exact cg⟩
  clear hW
  have x0 : W1.cell? ⟨w1.heap.size, 0, none⟩ = some (.int .i64 fn) := blk_cell B2.out 0
  have x1 : W1.cell? ⟨w1.heap.size, 1, none⟩ = some (.int .i64 pc) := blk_cell B2.out 1
  go_wp2
  go_ret
  exact ⟨by first | rfl | (simp; done), cg⟩
theorem firstBad_all {α : Type} {f : Nat → α → Int} : ∀ {l : List α} {i : Nat}, firstBad f i l = none → ∀ (k : Nat) (x : α), l[k]? = some x → f (i + k) x = 0
  | [], i, h, k, x, hx => by simp at hx
  | y :: ys, i, h, k, x, hx => by
    rw [firstBad] at h
    by_cases hy : f i y ≠ 0
    · rw [if_pos hy] at h; cases h
    · rw [if_neg hy] at h
      cases k with
      | zero => injection hx with hx; rw [← hx]; exact Classical.not_not.1 hy
      | succ k => have := firstBad_all h k x hx; rwa [show i + (k + 1) = i + 1 + k by omega]
theorem funcs_all {p : QP} : ∀ {l : List QF} {i : Nat}, (funcsP chkP p i l).2 = 0 → ∀ (k : Nat) (f : QF), l[k]? = some f → (functionP chkP p (i + k) f).2 = 0
  | [], i, h, k, x, hx => by simp at hx
  | y :: ys, i, h, k, x, hx => by
    rw [funcsP] at h
    by_cases hy : (functionP chkP p i y).2 ≠ 0
    · rw [if_pos hy] at h; exact absurd h hy
    · rw [if_neg hy] at h
      cases k with
      | zero => injection hx with hx; rw [← hx]; exact Classical.not_not.1 hy
      | succ k => have := funcs_all h k x hx; rwa [show i + (k + 1) = i + 1 + k by omega]
structure Fits (p : QP) : Prop where
  nc : p.consts.length ≤ 512
  cs : ∀ (i : Nat) (c : QC), p.consts[i]? = some c → constP p.consts i c = 0
  nf : 0 < p.funcs.length
  mf : p.funcs.length ≤ 128
  fs : ∀ (k : Nat) (f : QF), p.funcs[k]? = some f → (functionP chkP p k f).2 = 0
theorem fits_of {p : QP} (h : (checkP chkP p).2 = 0) : Fits p := by
  rw [check_consts] at h
  by_cases h1 : (constsE p.consts).2 ≠ 0
  · rw [if_pos h1] at h
    exact absurd h h1
  rw [if_neg h1] at h
  by_cases h2 : p.funcs.length = 0
  · rw [if_pos h2] at h
    exact absurd h (by decide)
  rw [if_neg h2] at h
  by_cases h3 : 128 < p.funcs.length
  · rw [if_pos h3] at h
    exact absurd h (by decide)
  rw [if_neg h3] at h
  have hc : p.consts.length ≤ 512 := by
    rcases Nat.lt_or_ge 512 p.consts.length with h9 | h9
    · exact absurd (by unfold constsE; rw [if_pos h9]; decide) h1
    · exact h9
  refine ⟨hc, fun i c hi => ?_, by omega, by omega, fun k f hf => by have := funcs_all h k f hf; rwa [Nat.zero_add] at this⟩
  have hn : firstBad (constP p.consts) 0 p.consts = none := by
    cases hf : firstBad (constP p.consts) 0 p.consts with
    | none => rfl
    | some z =>
      exfalso
      obtain ⟨j, e⟩ := z
      apply h1
      unfold constsE
      rw [if_neg (by omega), hf]
      simp only
      intro he
      subst he
      have hq : ∀ (l : List QC) (j i : Nat) (e : Int), firstBad (constP p.consts) j l = some (i, e) → e ≠ 0 := by
        intro l
        induction l with
        | nil => intro j i e h; cases h
        | cons x xs ih =>
          intro j i e h
          rw [firstBad] at h
          by_cases hx : constP p.consts j x ≠ 0
          · rw [if_pos hx] at h
            injection h with h
            injection h with h1 h2
            rw [← h2]; exact hx
          · rw [if_neg hx] at h
            exact ih _ _ _ h
      exact hq _ _ _ _ hf rfl
  have := firstBad_all hn i c hi
  rwa [Nat.zero_add] at this
theorem fits_check {p : QP} (h : Fits p) : checkP chkP p = ((0, 0), 0) := by
  rw [check_consts]
  have hc : constsE p.consts = (0, 0) := by
    unfold constsE
    rw [if_neg (by have := h.nc; omega), firstBad_none (fun k x hx => by rw [Nat.zero_add]; exact h.cs k x hx)]
  rw [hc, if_neg (by simp), if_neg (by have := h.nf; omega), if_neg (by have := h.mf; omega)]
  exact funcs_none (fun k f hf => by rw [Nat.zero_add]; exact h.fs k f hf)
end Go.Proofs.YtgaackedappmgaaDoor.K
