import Derived.Test.YtgaackedappmgaaDoorYo
import Derived.Test.YtgaackedappmgaaDoorYq
import Derived.Test.YtgaackedappmgaaDoorQe
import Derived.IntWalk
import Derived.BigQuiet
import Derived.Test.YtgaackedappmgaaDoorQh
import Derived.Test.YtgaackedappmgaaDoorWEqStruct
namespace Go.Proofs.YtgaackedappmgaaDoor.K
open Go.RowKit Go.Proofs.YtgaackedappmgaaDoorW.PrintWords Go.Proofs.YtgaackedappmgaaDoorW.PrintLast Go.Proofs.YtgaackedappmgaaDoorW.PrintMore
set_option linter.unusedVariables false
set_option linter.unusedSimpArgs false
set_option maxRecDepth 100000
def Nr (u u' : Value) : Prop := u' = u ∨ ∃ v v', u = .int .i64 v ∧ u' = .int .i64 v' ∧ (Lit.int .i64 v').wf = true
def Poke (w w' : World) : Prop := ∀ a u, w.cell? a = some u → ∃ u', w'.cell? a = some u' ∧ Nr u u'
theorem Nr.trans {a b c : Value} (h : Nr a b) (k : Nr b c) : Nr a c := by
  rcases h with rfl | ⟨v, v', rfl, rfl, hw⟩
  · exact k
  · rcases k with rfl | ⟨x, x', e, rfl, hw2⟩
    · exact Or.inr ⟨v, v', rfl, rfl, hw⟩
    · exact Or.inr ⟨v, x', rfl, rfl, hw2⟩
theorem Poke.trans {a b c : World} (h : Poke a b) (k : Poke b c) : Poke a c := fun p u hu => by
  obtain ⟨u1, h1, h2⟩ := h p u hu
  obtain ⟨u2, k1, k2⟩ := k p u1 h1
  exact ⟨u2, k1, h2.trans k2⟩
theorem Poke.of_chg {a b : World} (h : Chg (fun _ => False) a b) : Poke a b := fun p u hu => ⟨u, cell_chg0 hu h, Or.inl rfl⟩
theorem Poke.set {w : World} {p : Addr} {v v' : Int} (h : w.cell? p = some (.int .i64 v)) (hw : (Lit.int .i64 v').wf = true) : Poke w (w.setCell p (.int .i64 v')) := fun a u hu => by
  by_cases e : a = p
  · subst e
    rw [h] at hu
    injection hu with hu
    exact ⟨_, World.cell?_setCell_same w _ _ h, Or.inr ⟨v, v', hu.symm, rfl, hw⟩⟩
  · exact ⟨u, (World.cell?_setCell_other w p a _ (fun h => e h.symm)).trans hu, Or.inl rfl⟩
theorem Nr.int {v : Int} {u' : Value} (h : Nr (.int .i64 v) u') : ∃ v', u' = .int .i64 v' ∧ ((Lit.int .i64 v).wf = true → (Lit.int .i64 v').wf = true) := by
  rcases h with rfl | ⟨x, x', e, rfl, hw⟩
  · exact ⟨v, rfl, id⟩
  · exact ⟨x', rfl, fun _ => hw⟩
theorem Nr.str {s : ByteArray} {u' : Value} (h : Nr (.string s) u') : u' = .string s := by
  rcases h with rfl | ⟨x, x', e, rfl, hw⟩
  · rfl
  · cases e
theorem Nr.sl {A : Option Addr} {n c : Nat} {u' : Value} (h : Nr (.slice A n c) u') : u' = .slice A n c := by
  rcases h with rfl | ⟨x, x', e, rfl, hw⟩
  · rfl
  · cases e
theorem C_poke {α : Type} {d : Kd α} {cells : α → List Value} {w w' : World} {A : Option Addr} {n : Nat} {l : List α} {Q : α → α → Prop} (hK : ∀ (w : World) (p : α) (cs : List Value), d.K w p cs ↔ cs = cells p) (hsz : ∀ p, (cells p).length = d.sz)
    (step : ∀ p (cs : List Value), cs.length = (cells p).length → (∀ (j : Nat) (u : Value), (cells p)[j]? = some u → ∃ u', cs[j]? = some u' ∧ Nr u u') → ∃ p', cells p' = cs ∧ Q p p') (h : d.C w A n l) (hp : Poke w w') :
    ∃ l', d.C w' A n l' ∧ l'.length = l.length ∧ ∀ (i : Nat) (x x' : α), l[i]? = some x → l'[i]? = some x' → Q x x' := by
  obtain ⟨e1, e2, e3⟩ := h
  have hch : ∀ i, i < l.length → ∃ x' : α, (∀ x, l[i]? = some x → Q x x') ∧ ∀ ad, A = some ad → ∀ (j : Nat) (u : Value), (cells x')[j]? = some u → w'.cell? (ad.add (i * d.sz + j)) = some u := by
    intro i hi
    obtain ⟨ad, ea, hc⟩ := e3 (by omega)
    obtain ⟨cs, hl, hk, hcell⟩ := hc i _ (List.getElem?_eq_getElem hi)
    rw [hK] at hk
    subst hk
    have hcs : ∀ j, j < (cells l[i]).length → ∃ u' : Value, w'.cell? (ad.add (i * d.sz + j)) = some u' ∧ ∀ u, (cells l[i])[j]? = some u → Nr u u' := fun j hj => by
      have hu := hcell j _ (List.getElem?_eq_getElem hj)
      obtain ⟨u', h1, h2⟩ := hp _ _ hu
      exact ⟨u', h1, fun u hu2 => by rw [List.getElem?_eq_getElem hj] at hu2; injection hu2 with hu2; rw [← hu2]; exact h2⟩
    obtain ⟨cs', hcl, hcs'⟩ := list_choose (cells l[i]).length hcs
    obtain ⟨x', hx1, hx2⟩ := step l[i] cs' hcl (fun j u hu => by
      have hj := (List.getElem?_eq_some_iff.1 hu).1
      obtain ⟨u', hu'⟩ : ∃ u', cs'[j]? = some u' := ⟨_, List.getElem?_eq_getElem (by omega)⟩
      exact ⟨u', hu', (hcs' j u' hu').2 u hu⟩)
    refine ⟨x', fun x hx => ?_, fun ad' ea' j u hu => ?_⟩
    · rw [List.getElem?_eq_getElem hi] at hx
      injection hx with hx
      rw [← hx]; exact hx2
    · rw [ea] at ea'
      injection ea' with ea'
      subst ea'
      rw [hx1] at hu
      exact (hcs' j u hu).1
  obtain ⟨l', hl', hs⟩ := list_choose l.length hch
  refine ⟨l', ⟨by omega, e2, fun h0 => ?_⟩, hl', fun i x x' hx hx' => (hs i x' hx').1 x hx⟩
  obtain ⟨ad, ea, _⟩ := e3 h0
  exact ⟨ad, ea, fun j x hx => ⟨cells x, hsz x, (hK w' x _).2 rfl, fun i u hu => (hs j x hx).2 ad ea i u hu⟩⟩
def ciQI (p : QI) : List Value := [.int .i64 p.op, .int .i64 p.a]
def ciQH (p : QH) : List Value := [.int .i64 p.frm, .int .i64 p.upto, .int .i64 p.tgt, .int .i64 p.hgt]
def ciQC (p : QC) : List Value := [.int .i64 p.kind, .int .i64 p.n, .string p.text]
theorem QI_poke {w w' : World} {A : Option Addr} {n : Nat} {l : List QI} (h : Kd.C kQI w A n l) (hp : Poke w w') : ∃ l', Kd.C kQI w' A n l' ∧ l'.length = l.length := by
  obtain ⟨l', h1, h2, _⟩ := C_poke (cells := ciQI) (Q := fun _ _ => True) kQI_K (fun _ => rfl) (fun p cs hl hc => by
    match cs, hl with
    | [x, y], _ =>
      obtain ⟨_, e0, h0⟩ := hc 0 _ rfl
      obtain ⟨_, e1, h1⟩ := hc 1 _ rfl
      injection e0 with e0
      injection e1 with e1
      subst e0 e1
      obtain ⟨a, rfl, _⟩ := h0.int
      obtain ⟨b, rfl, _⟩ := h1.int
      exact ⟨⟨a, b⟩, rfl, trivial⟩) h hp
  exact ⟨l', h1, h2⟩
theorem QH_poke {w w' : World} {A : Option Addr} {n : Nat} {l : List QH} (h : Kd.C kQH w A n l) (hp : Poke w w') : ∃ l', Kd.C kQH w' A n l' ∧ l'.length = l.length := by
  obtain ⟨l', h1, h2, _⟩ := C_poke (cells := ciQH) (Q := fun _ _ => True) kQH_K (fun _ => rfl) (fun p cs hl hc => by
    match cs, hl with
    | [x, y, z, t], _ =>
      obtain ⟨_, e0, h0⟩ := hc 0 _ rfl
      obtain ⟨_, e1, h1⟩ := hc 1 _ rfl
      obtain ⟨_, e2, h2⟩ := hc 2 _ rfl
      obtain ⟨_, e3, h3⟩ := hc 3 _ rfl
      injection e0 with e0
      injection e1 with e1
      injection e2 with e2
      injection e3 with e3
      subst e0 e1 e2 e3
      obtain ⟨a, rfl, _⟩ := h0.int
      obtain ⟨b, rfl, _⟩ := h1.int
      obtain ⟨c, rfl, _⟩ := h2.int
      obtain ⟨d, rfl, _⟩ := h3.int
      exact ⟨⟨a, b, c, d⟩, rfl, trivial⟩) h hp
  exact ⟨l', h1, h2⟩
theorem QC_poke {w w' : World} {A : Option Addr} {n : Nat} {l : List QC} (h : Kd.C kQC w A n l) (hp : Poke w w') : ∃ l', Kd.C kQC w' A n l' ∧ l'.length = l.length ∧ ∀ (i : Nat) (x x' : QC), l[i]? = some x → l'[i]? = some x' → CWf x → CWf x' := by
  exact C_poke (cells := ciQC) (Q := fun x x' => CWf x → CWf x') kQC_K (fun _ => rfl) (fun p cs hl hc => by
    match cs, hl with
    | [x, y, z], _ =>
      obtain ⟨_, e0, h0⟩ := hc 0 _ rfl
      obtain ⟨_, e1, h1⟩ := hc 1 _ rfl
      obtain ⟨_, e2, h2⟩ := hc 2 _ rfl
      injection e0 with e0
      injection e1 with e1
      injection e2 with e2
      subst e0 e1 e2
      obtain ⟨a, rfl, ha⟩ := h0.int
      obtain ⟨b, rfl, hb⟩ := h1.int
      obtain rfl := h2.str
      exact ⟨⟨a, b, p.text⟩, rfl, fun hw => ⟨ha hw.kind, hb hw.n, hw.text⟩⟩) h hp
theorem QR_poke {w w' : World} {A : Option Addr} {n : Nat} {l : List QR} (h : Kd.C kQR w A n l) (hp : Poke w w') : ∃ l', Kd.C kQR w' A n l' ∧ l'.length = l.length ∧ ∀ (i : Nat) (x x' : QR), l[i]? = some x → l'[i]? = some x' → x'.name = x.name ∧ x'.code = x.code ∧ x'.hnd = x.hnd := by
  exact C_poke (cells := qrCells) (Q := fun x x' => x'.name = x.name ∧ x'.code = x.code ∧ x'.hnd = x.hnd) kQR_K (fun _ => rfl) (fun p cs hl hc => by
    match cs, hl with
    | [x, y, z, t, s], _ =>
      obtain ⟨_, e0, h0⟩ := hc 0 _ rfl
      obtain ⟨_, e1, h1⟩ := hc 1 _ rfl
      obtain ⟨_, e2, h2⟩ := hc 2 _ rfl
      obtain ⟨_, e3, h3⟩ := hc 3 _ rfl
      obtain ⟨_, e4, h4⟩ := hc 4 _ rfl
      injection e0 with e0
      injection e1 with e1
      injection e2 with e2
      injection e3 with e3
      injection e4 with e4
      subst e0 e1 e2 e3 e4
      obtain rfl := h0.str
      obtain ⟨b, rfl, _⟩ := h1.int
      obtain ⟨c, rfl, _⟩ := h2.int
      obtain rfl := h3.sl
      obtain rfl := h4.sl
      exact ⟨⟨p.name, b, c, p.code, p.hnd⟩, rfl, rfl, rfl, rfl⟩) h hp
theorem PV.poke {w w' : World} {cA fA : Option Addr} {p : QP} {rs : List QR} (h : PV w cA fA p rs) (hw : PWf p) (hp : Poke w w') : ∃ p' rs', PV w' cA fA p' rs' ∧ PWf p' ∧ p'.consts.length = p.consts.length ∧ p'.funcs.length = p.funcs.length := by
  obtain ⟨cs', c1, c2, c3⟩ := QC_poke h.cs hp
  obtain ⟨rs', r1, r2, r3⟩ := QR_poke h.fs hp
  have hrl := h.fs.1
  have hch : ∀ k, k < p.funcs.length → ∃ f' : QF, (∀ r', rs'[k]? = some r' → RawOf w' r' f') ∧ f'.name.size ≤ 140737488351232 ∧ f'.code.length ≤ 1048576 ∧ f'.hnd.length ≤ 1048576 := by
    intro k hk
    obtain ⟨r, hr⟩ : ∃ r, rs[k]? = some r := ⟨_, List.getElem?_eq_getElem (by omega)⟩
    obtain ⟨r', hr'⟩ : ∃ r', rs'[k]? = some r' := ⟨_, List.getElem?_eq_getElem (by omega)⟩
    have hf := List.getElem?_eq_getElem hk
    obtain ⟨a1, a2, a3, a4, a5⟩ := h.raw k r _ hr hf
    obtain ⟨b1, b2, b3⟩ := r3 k r r' hr hr'
    obtain ⟨code', d1, d2⟩ := QI_poke a4 hp
    obtain ⟨hnd', e1, e2⟩ := QH_poke a5 hp
    obtain ⟨s1, s2, s3⟩ := hw.sm.fs _ (List.mem_of_getElem? hf)
    refine ⟨⟨r'.name, r'.pars, r'.locs, code', hnd'⟩, fun r2 hr2 => ?_, ?_, ?_, ?_⟩
    · rw [hr'] at hr2
      injection hr2 with hr2
      subst hr2
      exact ⟨rfl, rfl, rfl, by rw [b2]; exact d1, by rw [b3]; exact e1⟩
    · simp only
      rw [b1, a1]; exact s1
    · simp only
      rw [d2]; exact s2
    · simp only
      rw [e2]; exact s3
  obtain ⟨fs', f1, f2⟩ := list_choose p.funcs.length hch
  refine ⟨⟨cs', fs'⟩, rs', ⟨by rw [c2]; exact c1, by rw [f1]; exact r1, fun k r f hr hf => (f2 k f hf).1 r hr⟩, ⟨⟨by simp only; rw [c2]; exact hw.sm.c, by simp only; rw [f1]; exact hw.sm.f, fun f hf => ?_⟩, fun c hc => ?_⟩, c2, f1⟩
  · obtain ⟨k, hk, he⟩ := List.getElem_of_mem hf
    exact (f2 k f (by rw [List.getElem?_eq_getElem hk, he])).2
  · obtain ⟨k, hk, he⟩ := List.getElem_of_mem hc
    simp only at hk he
    obtain ⟨x, hx⟩ : ∃ x, p.consts[k]? = some x := ⟨_, List.getElem?_eq_getElem (by omega)⟩
    exact c3 k x c hx (by rw [List.getElem?_eq_getElem hk, he]) (hw.cs x (List.mem_of_getElem? hx))
end Go.Proofs.YtgaackedappmgaaDoor.K

namespace Go.Proofs.YtgaackedappmgaaDoor.K
open Go.RowKit Go.Proofs.YtgaackedappmgaaDoorW.PrintWords Go.Proofs.YtgaackedappmgaaDoorW.PrintLast Go.Proofs.YtgaackedappmgaaDoorW.PrintMore
set_option linter.unusedVariables false
set_option linter.unusedSimpArgs false
set_option maxRecDepth 100000
def CodeB (w : World) (lo : Nat) (b : Nat) : Prop := lo ≤ b ∧ ∀ (cs : Array Value) (t : TypeId) (fr : Nat × Nat), w.heap[b]? = some (.cells cs t fr) → t = 50
def LastQ (w : World) (lo : Nat) (e : Ending) (w' : World) : Prop := e = .returned (.tuple #[]) ∧ Poke w w' ∧ Chg (CodeB w lo) w w'
set_option maxHeartbeats 4000000
theorem law_last (w : World) (cA : Option Addr) (gF nc cc nf fc lo : Nat) (op : Int) (rs : List QR) (hR : Kd.C kQR w (some ⟨gF, 0, none⟩) nf rs) (hop : (Lit.int .i64 op).wf = true) (hnf : nf ≤ 1048576)
    (hsh : ∀ r, rs[0]? = some r → r.code.2.1 ≤ 1048576 ∧ (r.code.2.1 = 0 ∨ ∃ g cs l, r.code.1 = some ⟨g, 0, none⟩ ∧ lo ≤ g ∧ w.heap[g]? = some (.cells cs 50 (0, 0)) ∧ Kd.C kQI w (some ⟨g, 0, none⟩) r.code.2.1 l)) :
    Calls Tryd.prog 13 #[.agg #[.slice cA nc cc, .slice (some ⟨gF, 0, none⟩) nf fc], .int .i64 op] w (LastQ w lo) := by
  have hRA := Aside0.mk hR
  have hoA := Aside0.mk hop
  by_cases h0 : nf = 0
  · subst h0
    clear hR hop hsh
    go_enter Tryd.func13, Tryd.ntmps13
    go_wp2
    go_end0
    exact ⟨rfl, Poke.of_chg cg, (cg : Chg (fun _ => False) w _).mono (fun _ _ h => h.elim)⟩
  have h01 : (0 : Int) < nf := by omega
  obtain ⟨r, hr⟩ : ∃ r, rs[0]? = some r := ⟨_, List.getElem?_eq_getElem (by have := hR.1; omega)⟩
  obtain ⟨hcl, hsh⟩ := hsh r hr
  obtain ⟨nm, pa, lo', ⟨kA, kN, hc⟩, hn⟩ := r
  obtain ⟨_, _, _, y3, _⟩ := raw_ownC hR 0 (by omega) hr
  simp only at y3 hsh hcl
  have hrA := Aside0.mk hr
  clear hR hop hr
  rcases hsh with hk | ⟨g, cs, l, e1, hlo, hb, hC⟩
  · subst hk
    have x3A := Aside0.mk y3
    clear y3
    go_enter Tryd.func13, Tryd.ntmps13
    go_upto_region 1 with (fail)
    (try simp only [Act.put, List.setIfInBounds_toArray, List.set_cons_zero, List.set_cons_succ])
    generalize hW : World.alloc w _ = W0
    have B1 : Aside0 (W0.heap[w.heap.size]? = some (.cells #[.slice cA nc cc, .slice (some ⟨gF, 0, none⟩) nf fc] 25)) := ⟨by rw [← hW]; exact heap_alloc_new w _⟩
    have hz0 : Aside0 (Chg (fun _ => False) w W0) := ⟨by rw [← hW]; exact cg⟩
    clear hW
    have p1 : W0.cell? ⟨w.heap.size, 1, none⟩ = some (.slice (some ⟨gF, 0, none⟩) nf fc) := blk_cell B1.out 1
    have x3 : W0.cell? ⟨gF, 3, none⟩ = some (.slice kA 0 hc) := by have := cell_chg0 x3A.out hz0.out; simpa using this
    go_wp2
    go_end0
    exact ⟨rfl, Poke.of_chg cg, (cg : Chg (fun _ => False) w _).mono (fun _ _ h => h.elim)⟩
  · subst e1
    by_cases hk : kN = 0
    · subst hk
      have x3A := Aside0.mk y3
      clear y3
      go_enter Tryd.func13, Tryd.ntmps13
      go_upto_region 1 with (fail)
      (try simp only [Act.put, List.setIfInBounds_toArray, List.set_cons_zero, List.set_cons_succ])
      generalize hW : World.alloc w _ = W0
      have B1 : Aside0 (W0.heap[w.heap.size]? = some (.cells #[.slice cA nc cc, .slice (some ⟨gF, 0, none⟩) nf fc] 25)) := ⟨by rw [← hW]; exact heap_alloc_new w _⟩
      have hz0 : Aside0 (Chg (fun _ => False) w W0) := ⟨by rw [← hW]; exact cg⟩
      clear hW
      have p1 : W0.cell? ⟨w.heap.size, 1, none⟩ = some (.slice (some ⟨gF, 0, none⟩) nf fc) := blk_cell B1.out 1
      have x3 : W0.cell? ⟨gF, 3, none⟩ = some (.slice (some ⟨g, 0, none⟩) 0 hc) := by have := cell_chg0 x3A.out hz0.out; simpa using this
      go_wp2
      go_end0
      exact ⟨rfl, Poke.of_chg cg, (cg : Chg (fun _ => False) w _).mono (fun _ _ h => h.elim)⟩
    obtain ⟨m, rfl⟩ : ∃ m, kN = m + 1 := ⟨kN - 1, by omega⟩
    obtain ⟨_, op1, a1, e1, _, z0, z1⟩ := kQI_at hC m (by omega)
    injection e1 with e1
    subst e1
    rw [add_plain] at z0 z1
    simp only [Nat.zero_add] at z0 z1
    have x3A := Aside0.mk y3
    have z0A := Aside0.mk z0
    have z1A := Aside0.mk z1
    have hbA := Aside0.mk hb
    have hloA := Aside0.mk hlo
    clear y3 z0 z1 hb hC hk hlo
    go_enter Tryd.func13, Tryd.ntmps13
    go_upto_region 1 with (fail)
    (try simp only [Act.put, List.setIfInBounds_toArray, List.set_cons_zero, List.set_cons_succ])
    generalize hW : World.alloc w _ = W0
    have B1 : Aside0 (W0.heap[w.heap.size]? = some (.cells #[.slice cA nc cc, .slice (some ⟨gF, 0, none⟩) nf fc] 25)) := ⟨by rw [← hW]; exact heap_alloc_new w _⟩
    have hz0 : Aside0 (Chg (fun _ => False) w W0) := ⟨by rw [← hW]; exact cg⟩
    clear hW
    have p1 : W0.cell? ⟨w.heap.size, 1, none⟩ = some (.slice (some ⟨gF, 0, none⟩) nf fc) := blk_cell B1.out 1
    have x3 : W0.cell? ⟨gF, 3, none⟩ = some (.slice (some ⟨g, 0, none⟩) (m + 1) hc) := by have := cell_chg0 x3A.out hz0.out; simpa using this
    have z0 : W0.cell? ⟨g, m * 2, none⟩ = some (.int .i64 op1) := cell_chg0 z0A.out hz0.out
    have z1 : W0.cell? ⟨g, m * 2 + 1, none⟩ = some (.int .i64 a1) := cell_chg0 z1A.out hz0.out
    have hbw := hz0.out.blk hbA.out (fun h => h)
    have u0 := blk_frozen hbw (m * 2)
    have u1 := blk_frozen hbw (m * 2 + 1)
    clear hbw
    have hm0 : (0 : Int) ≤ m := by omega
    have hm1 : (m : Int) < (m : Int) + 1 := by omega
    have hm2 : (0 : Int) < (m : Int) + 1 := by omega
    have hw64 : wrap64 (m : Int) = m := by unfold wrap64; omega
    go_upto_region 2 with (fail)
    (try simp only [Act.put, List.setIfInBounds_toArray, List.set_cons_zero, List.set_cons_succ])
    refine start_ (n := 16) (S := fun w' => w'.cell? ⟨w.heap.size, 1, none⟩ = some (.slice (some ⟨gF, 0, none⟩) nf fc) ∧ w'.cell? ⟨gF, 3, none⟩ = some (.slice (some ⟨g, 0, none⟩) (m + 1) hc)) (ds := [15]) #[false, false, false, false, false, false, false, false, false, false, false, false, false, false, false, false] (by kernel_rfl) rfl rfl ⟨p1, x3⟩ (fun hHeld => ?_)
    refine pure_ (i := 0) (N := some 17) (v := ?_) (a' := ?_) #[true, false, false, false, false, false, false, false, false, false, false, false, false, false, false, false] rfl rfl (by kernel_rfl) (fun _ _ _ h => h) (Or.inl ⟨by rfl, ?_⟩) ?_ ?_
    rotate_left
    · intro w'
      go_simp
      with_reducible rfl
    rotate_left
    · simp only [Act.put, List.setIfInBounds_toArray, List.set_cons_zero, List.set_cons_succ, i64_w, i32_w]
      rfl
    refine pure_ (i := 5) (N := some 22) (v := ?_) (a' := ?_) #[true, false, false, false, false, true, false, false, false, false, false, false, false, false, false, false] rfl rfl (by kernel_rfl) (fun _ _ _ h => h) (Or.inl ⟨by rfl, ?_⟩) ?_ ?_
    rotate_left
    · intro w'
      go_simp
      with_reducible rfl
    rotate_left
    · simp only [Act.put, List.setIfInBounds_toArray, List.set_cons_zero, List.set_cons_succ, i64_w, i32_w]
      rfl
    refine pure_ (i := 12) (N := some 29) (v := ?_) (a' := ?_) #[true, false, false, false, false, true, false, false, false, false, false, false, true, false, false, false] rfl rfl (by kernel_rfl) (fun _ _ _ h => h) (Or.inl ⟨by rfl, ?_⟩) ?_ ?_
    rotate_left
    · intro w'
      go_simp
      with_reducible rfl
    rotate_left
    · simp only [Act.put, List.setIfInBounds_toArray, List.set_cons_zero, List.set_cons_succ, i64_w, i32_w]
      rfl
    refine pure_ (i := 13) (N := some 30) (v := ?_) (a' := ?_) #[true, false, false, false, false, true, false, false, false, false, false, false, true, true, false, false] rfl rfl (by kernel_rfl) (fun _ _ _ h => h) (Or.inl ⟨by rfl, ?_⟩) ?_ ?_
    rotate_left
    · intro w'
      go_simp
      with_reducible rfl
    rotate_left
    · simp only [Act.put, List.setIfInBounds_toArray, List.set_cons_zero, List.set_cons_succ, i64_w, i32_w]
      rfl
    refine take_ (i := 1) (N := some 18) (v := ?_) (a' := ?_) #[true, true, false, false, false, true, false, false, false, false, false, false, true, true, false, false] rfl rfl (by kernel_rfl) (fun _ _ _ h => h) (Or.inl ⟨by rfl, ?_⟩) hHeld ?_ ?_
    rotate_left
    · rintro w' ⟨s0, s1⟩
      go_simp
      with_reducible rfl
    rotate_left
    · simp only [Act.put, List.setIfInBounds_toArray, List.set_cons_zero, List.set_cons_succ, i64_w, i32_w]
      rfl
    refine pure_ (i := 2) (N := some 19) (v := ?_) (a' := ?_) #[true, true, true, false, false, true, false, false, false, false, false, false, true, true, false, false] rfl rfl (by kernel_rfl) (fun _ _ _ h => h) (Or.inl ⟨by rfl, ?_⟩) ?_ ?_
    rotate_left
    · intro w'
      go_simp
      with_reducible rfl
    rotate_left
    · simp only [Act.put, List.setIfInBounds_toArray, List.set_cons_zero, List.set_cons_succ, i64_w, i32_w]
      rfl
    refine pure_ (i := 3) (N := some 20) (v := ?_) (a' := ?_) #[true, true, true, true, false, true, false, false, false, false, false, false, true, true, false, false] rfl rfl (by kernel_rfl) (fun _ _ _ h => h) (Or.inl ⟨by rfl, ?_⟩) ?_ ?_
    rotate_left
    · intro w'
      go_simp
      with_reducible rfl
    rotate_left
    · simp only [Act.put, List.setIfInBounds_toArray, List.set_cons_zero, List.set_cons_succ, i64_w, i32_w]
      rfl
    refine take_ (i := 4) (N := some 21) (v := ?_) (a' := ?_) #[true, true, true, true, true, true, false, false, false, false, false, false, true, true, false, false] rfl rfl (by kernel_rfl) (fun _ _ _ h => h) (Or.inl ⟨by rfl, ?_⟩) hHeld ?_ ?_
    rotate_left
    · rintro w' ⟨s0, s1⟩
      go_simp
      with_reducible rfl
    rotate_left
    · simp only [Act.put, List.setIfInBounds_toArray, List.set_cons_zero, List.set_cons_succ, i64_w, i32_w]
      rfl
    refine take_ (i := 6) (N := some 23) (v := ?_) (a' := ?_) #[true, true, true, true, true, true, true, false, false, false, false, false, true, true, false, false] rfl rfl (by kernel_rfl) (fun _ _ _ h => h) (Or.inl ⟨by rfl, ?_⟩) hHeld ?_ ?_
    rotate_left
    · rintro w' ⟨s0, s1⟩
      go_simp
      with_reducible rfl
    rotate_left
    · simp only [Act.put, List.setIfInBounds_toArray, List.set_cons_zero, List.set_cons_succ, i64_w, i32_w]
      rfl
    refine pure_ (i := 7) (N := some 24) (v := ?_) (a' := ?_) #[true, true, true, true, true, true, true, true, false, false, false, false, true, true, false, false] rfl rfl (by kernel_rfl) (fun _ _ _ h => h) (Or.inl ⟨by rfl, ?_⟩) ?_ ?_
    rotate_left
    · intro w'
      go_simp
      with_reducible rfl
    rotate_left
    · simp only [Act.put, List.setIfInBounds_toArray, List.set_cons_zero, List.set_cons_succ, i64_w, i32_w]
      rfl
    refine pure_ (i := 8) (N := some 25) (v := ?_) (a' := ?_) #[true, true, true, true, true, true, true, true, true, false, false, false, true, true, false, false] rfl rfl (by kernel_rfl) (fun _ _ _ h => h) (Or.inl ⟨by rfl, ?_⟩) ?_ ?_
    rotate_left
    · intro w'
      go_simp
      with_reducible rfl
    rotate_left
    · simp only [Act.put, List.setIfInBounds_toArray, List.set_cons_zero, List.set_cons_succ, i64_w, i32_w]
      rfl
    refine take_ (i := 9) (N := some 26) (v := ?_) (a' := ?_) #[true, true, true, true, true, true, true, true, true, true, false, false, true, true, false, false] rfl rfl (by kernel_rfl) (fun _ _ _ h => h) (Or.inl ⟨by rfl, ?_⟩) hHeld ?_ ?_
    rotate_left
    · rintro w' ⟨s0, s1⟩
      go_simp
      with_reducible rfl
    rotate_left
    · simp only [Act.put, List.setIfInBounds_toArray, List.set_cons_zero, List.set_cons_succ, i64_w, i32_w]
      rfl
    refine pure_ (i := 10) (N := some 27) (v := ?_) (a' := ?_) #[true, true, true, true, true, true, true, true, true, true, true, false, true, true, false, false] rfl rfl (by kernel_rfl) (fun _ _ _ h => h) (Or.inl ⟨by rfl, ?_⟩) ?_ ?_
    rotate_left
    · intro w'
      go_simp
      with_reducible rfl
    rotate_left
    · simp only [Act.put, List.setIfInBounds_toArray, List.set_cons_zero, List.set_cons_succ, i64_w, i32_w]
      rfl
    refine pure_ (i := 11) (N := some 28) (v := ?_) (a' := ?_) #[true, true, true, true, true, true, true, true, true, true, true, true, true, true, false, false] rfl rfl (by kernel_rfl) (fun _ _ _ h => h) (Or.inl ⟨by rfl, ?_⟩) ?_ ?_
    rotate_left
    · intro w'
      go_simp
      with_reducible rfl
    rotate_left
    · simp only [Act.put, List.setIfInBounds_toArray, List.set_cons_zero, List.set_cons_succ, i64_w, i32_w]
      rfl
    refine pure_ (i := 14) (N := some 31) (v := ?_) (a' := ?_) #[true, true, true, true, true, true, true, true, true, true, true, true, true, true, true, false] rfl rfl (by kernel_rfl) (fun _ _ _ h => h) (Or.inl ⟨by rfl, ?_⟩) ?_ ?_
    rotate_left
    · intro w'
      go_simp
      with_reducible rfl
    rotate_left
    · simp only [Act.put, List.setIfInBounds_toArray, List.set_cons_zero, List.set_cons_succ, i64_w, i32_w]
      rfl
    refine last_ (i := 15) (N := none) #[true, true, true, true, true, true, true, true, true, true, true, true, true, true, true, true] rfl rfl (by kernel_rfl) (by decide) (fun K hK => ?_)
    refine skip_ (w1 := ?_) (by rfl) rfl ?_ ?_
    rotate_left
    · go_simp
      rfl
    refine hK.out _ _ ?_
    clear hK K
    refine done_ (by kernel_rfl) ?_
    go_wp2
    go_end0
    have hp1 : Poke W0 (W0.setCell ⟨g, m * 2, none⟩ (.int .i64 op)) := Poke.set z0 hoA.out
    have hp2 : Poke (W0.setCell ⟨g, m * 2, none⟩ (.int .i64 op)) ((W0.setCell ⟨g, m * 2, none⟩ (.int .i64 op)).setCell ⟨g, m * 2 + 1, none⟩ (.int .i64 0)) := Poke.set (v := a1) ((World.cell?_setCell_other _ _ _ _ (by simp)).trans z1) (by decide)
    have hcc := ((Chg.refl (fun b => b = g) W0).setCell (p := ⟨g, m * 2, none⟩) (fun _ => rfl) (.int .i64 op)).setCell (p := ⟨g, m * 2 + 1, none⟩) (fun _ => rfl) (.int .i64 0)
    have hcb : CodeB w lo g := ⟨hloA.out, fun cs t fr he => by rw [hbA.out] at he; injection he with he; injection he with _ he _; exact he.symm⟩
    exact ⟨rfl, (Poke.of_chg hz0.out).trans ((hp1.trans hp2).trans (Poke.of_chg ((Chg.refl _ _).drew))), ((hz0.out.mono (S' := CodeB w lo) (fun _ _ h => h.elim)).trans hcc (fun b hb h => by rw [h]; exact hcb)).drew⟩
theorem PV.later {w1 w5 : World} {cA fA : Option Addr} {p : QP} {rs : List QR} (h : PV w1 cA fA p rs) (hw : PWf p) (hp : Poke w1 w5) (hs : w1.heap.size ≤ w5.heap.size) : ∃ p' rs', PWf p' ∧ p'.consts.length = p.consts.length ∧ p'.funcs.length = p.funcs.length ∧ ∀ w', Chg (fun b => w1.heap.size ≤ b) w5 w' → PV w' cA fA p' rs' := by
  let u : World := { w5 with heap := w5.heap.extract 0 w1.heap.size }
  have hu : ∀ k, k < w1.heap.size → u.heap[k]? = w5.heap[k]? := fun k hk => by
    show (w5.heap.extract 0 w1.heap.size)[k]? = _
    rw [Array.getElem?_extract]
    simp [hk, hs]
  have hus : u.heap.size = w1.heap.size := by
    show (w5.heap.extract 0 w1.heap.size).size = _
    rw [Array.size_extract]
    omega
  have hpu : Poke w1 u := fun a v ha => by
    obtain ⟨v', h1, h2⟩ := hp a v ha
    have hb := World.block_lt_of_cell? w1 a ha
    refine ⟨v', ?_, h2⟩
    have := hu a.block hb
    simpa [World.cell?, this] using h1
  obtain ⟨p', rs', h1, h2, h3, h4⟩ := h.poke hw hpu
  refine ⟨p', rs', h2, h3, h4, fun w' hc => h1.below ⟨hc.os, hc.tape, hc.output, by rw [hus]; exact Nat.le_trans hs hc.size, fun k hk => ?_⟩⟩
  rw [hus] at hk
  exact (hc.block k (by omega) (by omega)).trans (hu k hk).symm
theorem LPV.view {w : World} {gC gF : Nat} {p : QP} {fs : List QR} (h : LPV w gC gF p fs) : PV w (some ⟨gC, 0, none⟩) (some ⟨gF, 0, none⟩) p (fs.take p.funcs.length) := by
  refine ⟨C_head h.cs, ?_, fun k r f hr hf => ?_⟩
  · have h0 := h.rows
    have h1 : fs.length = 2 * p.funcs.length + 64 := h0.1
    rw [← h1] at h0
    have h2 := Kd.C_take (m := p.funcs.length) h0 (by omega)
    rwa [List.length_take, Nat.min_eq_left (by omega)] at h2
  · obtain ⟨r', m, a1, a2, a3, a4, a5, a6, a7, a8, a9, a10, a11, a12⟩ := h.hd k f hf
    have hk := (List.getElem?_eq_some_iff.1 hf).1
    rw [List.getElem?_take_of_lt hk] at hr
    rw [a1] at hr
    injection hr with hr
    subst hr
    exact ⟨a3, a4, a5, by rw [a6]; exact C_head a11, by rw [a7]; exact C_head a12⟩
theorem kit_Num (w : World) (x : Int) : Calls Tryd.prog 11 #[.int .i64 x] w fun e w' => e = .returned (.int .i64 x) ∧ w' = w := by
  go_enter Tryd.func11, Tryd.ntmps11
  go_wp2
  go_ret
  exact ⟨rfl, rfl⟩
end Go.Proofs.YtgaackedappmgaaDoor.K

namespace Go.Proofs.YtgaackedappmgaaDoor.K
open Go.RowKit Go.Proofs.YtgaackedappmgaaDoorW.PrintWords Go.Proofs.YtgaackedappmgaaDoorW.PrintLast Go.Proofs.YtgaackedappmgaaDoorW.PrintMore
set_option linter.unusedVariables false
set_option linter.unusedSimpArgs false
set_option maxRecDepth 100000
theorem eqAPl (d : Nat) (w : World) (x0 y0 x1 y1 : Int) :
    (Op.equalIn (d + 2) 28 (.agg #[.int .i64 x0, .int .i64 x1]) (.agg #[.int .i64 y0, .int .i64 y1])).run Tryd.prog w = .ok (x0 == y0 && (x1 == y1)) w := by
  refine eqA_of Tryd.underlying28 (by kernel_rfl) ?_
  refine eqf_cons (by rfl) (by go_simp; rfl) (by go_simp; rfl) (by go_simp) ?_
  exact eqf_last (by rfl) (by go_simp; rfl) (by go_simp; rfl) (by go_simp)
attribute [local go_sem high] eqAPl
theorem last_of {w1 w4 : World} {lo gC gF c d : Nat} {p : QP} {fs : List QR} (hO : LOwn w1 lo gC gF c d p fs) (hV : LPV w1 gC gF p fs) (hc : Chg (fun _ => False) w1 w4) (hn : ∀ f ∈ p.funcs, f.code.length ≤ 1048576) :
    ∀ r, (fs.take p.funcs.length)[0]? = some r → r.code.2.1 ≤ 1048576 ∧ (r.code.2.1 = 0 ∨ ∃ g cs l, r.code.1 = some ⟨g, 0, none⟩ ∧ lo ≤ g ∧ w4.heap[g]? = some (.cells cs 50 (0, 0)) ∧ Kd.C kQI w4 (some ⟨g, 0, none⟩) r.code.2.1 l) := fun r hr => by
  have h0 : 0 < p.funcs.length := by
    have := (List.getElem?_eq_some_iff.1 hr).1
    rw [List.length_take] at this
    omega
  rw [List.getElem?_take_of_lt h0] at hr
  obtain ⟨f, hf⟩ : ∃ f, p.funcs[0]? = some f := ⟨_, List.getElem?_eq_getElem h0⟩
  obtain ⟨m, a1, a2, a3, a4, a5, a6⟩ := hO.sh 0 f r hf hr
  obtain ⟨b1, _, hAf, _⟩ := Kd.R_form a3 (by rw [List.length_append, kQIMarks_length]; omega)
  have hAf2 := hAf
  unfold svl at hAf
  injection hAf with e1 _ _
  have o1 : (svl m.code).ownBlock = some b1 := by rw [hAf2]; rfl
  obtain ⟨cs, s1⟩ := Kd.R_typed a3 b1 o1
  rw [a1]
  refine ⟨hn f (List.mem_of_getElem? hf), Or.inr ⟨b1, cs, f.code, e1, a5 b1 o1, hc.blk s1 (fun h => h), ?_⟩⟩
  have h1 := C_head (R_toC a3)
  rw [e1] at h1
  exact C_chg h1 (hc.below (fun _ _ h => h))
theorem wf_of {p : QP} (ok : okQP p) (h : p.consts.length + (p.funcs.map (fun f => f.code.length + f.hnd.length + 1)).sum ≤ 1048576) : PWf p := by
  obtain ⟨h1, h2, h3⟩ := prog_small h
  exact ⟨⟨h1, h2, fun f hf => ⟨(ok.2.2 f hf).1, h3 f hf⟩⟩, fun c hc => ⟨(ok.1.2 c hc).1, (ok.1.2 c hc).2.1, by have := (ok.1.2 c hc).2.2; unfold maxLen; omega⟩⟩
set_option maxHeartbeats 8000000
theorem law_programChecks (w : World) (cA fA : Option Addr) (cc fc : Nat) (p : QP) (rs : List QR) (op : Int) (hP : PV w cA fA p rs) (hw : PWf p) (hop : (Lit.int .i64 op).wf = true) (hE : w.cell? ⟨0, 0, none⟩ = some (.iface 114 (.agg #[.pointer (some ⟨2, 68, none⟩)]))) :
    Calls Tryd.prog 3 #[.agg #[.slice cA p.consts.length cc, .slice fA p.funcs.length fc], .int .i64 op] w fun e w' => e = .returned (.bool true) ∧ Chg (fun _ => False) w w' := by
  have hPA := Aside0.mk hP
  have hwA := Aside0.mk hw
  have hoA := Aside0.mk hop
  have hEA := Aside0.mk hE
  have hE0 : Aside0 (0 < w.heap.size) := ⟨World.block_lt_of_cell? w _ hE⟩
  have hcode : Aside0 (∀ f ∈ p.funcs, f.code.length ≤ 1048576 ∧ f.hnd.length ≤ 1048576) := ⟨fun f hf => (hw.sm.fs f hf).2⟩
  have hn := hw.sm.c
  have hm := hw.sm.f
  rcases hq : checkP chkP p with ⟨⟨z1, z2⟩, z3⟩
  have hqA := Aside0.mk hq
  clear hP hw hop hE hq
  go_enter Tryd.func3, Tryd.ntmps3
  go_upto_region 1 with (fail)
  (try simp only [Act.put, List.setIfInBounds_toArray, List.set_cons_zero, List.set_cons_succ])
  generalize hW : World.alloc w _ = W0
  have B1 : Aside0 (W0.heap[w.heap.size]? = some (.cells #[.slice cA p.consts.length cc, .slice fA p.funcs.length fc] 25)) := ⟨by rw [← hW]; exact heap_alloc_new w _⟩
  have hz0 : Aside0 (Chg (fun _ => False) w W0) := ⟨by rw [← hW]; exact cg⟩
  clear hW
  have p0 : W0.cell? ⟨w.heap.size, 0, none⟩ = some (.slice cA p.consts.length cc) := blk_cell B1.out 0
  have p1 : W0.cell? ⟨w.heap.size, 1, none⟩ = some (.slice fA p.funcs.length fc) := blk_cell B1.out 1
  go_upto_region 2 with (go_at_call 8; go_must (refine (kit_LentProgram W0 cA fA cc fc p rs (hPA.out.below (hz0.out.below (fun _ _ h => h))) hn hm hcode.out).mono ?_); go_must (rintro e w1 ⟨gC, gF, c, d, fs, rfl, hcc, hdd, hV, hc1, hO⟩); go_must (replace hV := Aside0.mk hV); go_must (replace hO := Aside0.mk hO); go_must (replace hc1 := Aside0.mk hc1))
  (try simp only [Act.put, List.setIfInBounds_toArray, List.set_cons_zero, List.set_cons_succ])
  generalize hW : World.alloc w1 _ = W1
  have hsz2 : Aside0 (W1.heap.size = w1.heap.size + 1) := ⟨by rw [← hW]; simp⟩
  have B2 : Aside0 (W1.heap[w1.heap.size]? = some (.cells #[.slice (some ⟨gC, 0, none⟩) p.consts.length c, .slice (some ⟨gF, 0, none⟩) p.funcs.length d] 25)) := ⟨by rw [← hW]; exact heap_alloc_new w1 _⟩
  have hz2 : Aside0 (Chg (fun _ => False) w1 W1) := ⟨by rw [← hW]; exact cg⟩
  clear hW
  have hlo : Aside0 (w.heap.size < W0.heap.size ∧ W0.heap.size ≤ w1.heap.size) := ⟨blk_lt B1.out, hc1.out.size⟩
  replace B1 := Aside0.mk (hz2.out.blk (hc1.out.blk B1.out (fun h => h)) (fun h => h))
  replace hz0 := Aside0.mk ((hz0.out.trans hc1.out (fun _ _ h => h)).trans hz2.out (fun _ _ h => h))
  have hv1 : Aside0 (Chg (fun _ => False) w1 W1) := ⟨hz2.out⟩
  clear p0 p1 hc1 hz2
  have p0 : W1.cell? ⟨w.heap.size, 0, none⟩ = some (.slice cA p.consts.length cc) := blk_cell B1.out 0
  have p1 : W1.cell? ⟨w.heap.size, 1, none⟩ = some (.slice fA p.funcs.length fc) := blk_cell B1.out 1
  go_upto_region 3 with (go_at_call 9; go_must (refine (ref_Check8 W1 cA fA cc fc p rs (hPA.out.below (hz0.out.below (fun _ _ h => h))) hwA.out.sm).mono ?_); go_must (rintro e w2 ⟨rfl, hc2⟩); go_must (rw [hqA.out]); go_must (replace hc2 := Aside0.mk hc2))
  (try simp only [Act.put, List.setIfInBounds_toArray, List.set_cons_zero, List.set_cons_succ])
  generalize hW : World.alloc w2 _ = W2
  have B3 : Aside0 (W2.heap[w2.heap.size]? = some (.cells #[.int .i64 z1, .int .i64 z2] 28)) := ⟨by rw [← hW]; exact heap_alloc_new w2 _⟩
  have hz3 : Aside0 (Chg (fun _ => False) w2 W2) := ⟨by rw [← hW]; exact cg⟩
  clear hW
  replace B1 := Aside0.mk (hz3.out.blk (hc2.out.blk B1.out (fun h => h)) (fun h => h))
  replace B2 := Aside0.mk (hz3.out.blk (hc2.out.blk B2.out (fun h => h)) (fun h => h))
  replace hz0 := Aside0.mk ((hz0.out.trans hc2.out (fun _ _ h => h)).trans hz3.out (fun _ _ h => h))
  replace hv1 := Aside0.mk ((hv1.out.trans hc2.out (fun _ _ h => h)).trans hz3.out (fun _ _ h => h))
  have hlo2 : Aside0 (w1.heap.size < w2.heap.size) := ⟨by have h1 := blk_lt B2.out; have h2 := hc2.out.size; have h3 := hz3.out.size; have h4 := hsz2.out; omega⟩
  clear p0 p1 hc2 hz3
  have q0 : W2.cell? ⟨w1.heap.size, 0, none⟩ = some (.slice (some ⟨gC, 0, none⟩) p.consts.length c) := blk_cell B2.out 0
  have q1 : W2.cell? ⟨w1.heap.size, 1, none⟩ = some (.slice (some ⟨gF, 0, none⟩) p.funcs.length d) := blk_cell B2.out 1
  go_upto_region 4 with (go_at_call 10; go_must (refine (prog_Check W2 (some ⟨gC, 0, none⟩) (some ⟨gF, 0, none⟩) c d p _ (hV.out.below (hv1.out.below (fun _ _ h => h))).view hwA.out (cell_chg0 hEA.out hz0.out)).mono ?_); go_must (rintro e w3 ⟨rfl, hc3⟩); go_must (rw [hqA.out]); go_must (replace hc3 := Aside0.mk hc3))
  (try simp only [Act.put, List.setIfInBounds_toArray, List.set_cons_zero, List.set_cons_succ])
  generalize hW : World.alloc w3 _ = W3
  have hsz3 : Aside0 (w2.heap.size < w3.heap.size) := ⟨by have h2 := hc3.out.size; have h1 := blk_lt B3.out; omega⟩
  have B4 : Aside0 (W3.heap[w3.heap.size]? = some (.cells #[.int .i64 z1, .int .i64 z2] 28)) := ⟨by rw [← hW]; exact heap_alloc_new w3 _⟩
  have hz4 : Aside0 (Chg (fun _ => False) w3 W3) := ⟨by rw [← hW]; exact cg⟩
  clear hW
  replace B1 := Aside0.mk (hz4.out.blk (hc3.out.blk B1.out (fun h => h)) (fun h => h))
  replace B2 := Aside0.mk (hz4.out.blk (hc3.out.blk B2.out (fun h => h)) (fun h => h))
  replace B3 := Aside0.mk (hz4.out.blk (hc3.out.blk B3.out (fun h => h)) (fun h => h))
  replace hz0 := Aside0.mk ((hz0.out.trans hc3.out (fun _ _ h => h)).trans hz4.out (fun _ _ h => h))
  replace hv1 := Aside0.mk ((hv1.out.trans hc3.out (fun _ _ h => h)).trans hz4.out (fun _ _ h => h))
  have hlo3 := hsz3
  clear q0 q1 hc3 hz4
  have p0 : W3.cell? ⟨w.heap.size, 0, none⟩ = some (.slice cA p.consts.length cc) := blk_cell B1.out 0
  have p1 : W3.cell? ⟨w.heap.size, 1, none⟩ = some (.slice fA p.funcs.length fc) := blk_cell B1.out 1
  have q0 : W3.cell? ⟨w1.heap.size, 0, none⟩ = some (.slice (some ⟨gC, 0, none⟩) p.consts.length c) := blk_cell B2.out 0
  have q1 : W3.cell? ⟨w1.heap.size, 1, none⟩ = some (.slice (some ⟨gF, 0, none⟩) p.funcs.length d) := blk_cell B2.out 1
  have x0 : W3.cell? ⟨w2.heap.size, 0, none⟩ = some (.int .i64 z1) := blk_cell B3.out 0
  have x1 : W3.cell? ⟨w2.heap.size, 1, none⟩ = some (.int .i64 z2) := blk_cell B3.out 1
  have y0 : W3.cell? ⟨w3.heap.size, 0, none⟩ = some (.int .i64 z1) := blk_cell B4.out 0
  have y1 : W3.cell? ⟨w3.heap.size, 1, none⟩ = some (.int .i64 z2) := blk_cell B4.out 1
  have hbe : ((z1 == z1) && (z2 == z2)) = true := by simp
  go_upto_region 6 with (first | (go_at_call 11; go_must (refine (kit_Num _ _).mono ?_); go_must (rintro e wn ⟨rfl, hwn⟩); go_must (subst wn)) | (go_at_call 12; go_must (refine (kit_KeptProgram W3 cA fA gC gF c d cc fc p rs fs (hV.out.below (hv1.out.below (fun _ _ h => h))) hcc hdd (hPA.out.below (hz0.out.below (fun _ _ h => h))) hn hm hcode.out).mono ?_); go_must (rintro e w4 ⟨rfl, hc4⟩); go_must (replace hc4 := Aside0.mk hc4)))
  (try simp only [Act.put, List.setIfInBounds_toArray, List.set_cons_zero, List.set_cons_succ])
  replace B1 := Aside0.mk (hc4.out.blk B1.out (fun h => h))
  replace B2 := Aside0.mk (hc4.out.blk B2.out (fun h => h))
  replace B3 := Aside0.mk (hc4.out.blk B3.out (fun h => h))
  replace B4 := Aside0.mk (hc4.out.blk B4.out (fun h => h))
  replace hz0 := Aside0.mk (hz0.out.trans hc4.out (fun _ _ h => h))
  replace hv1 := Aside0.mk (hv1.out.trans hc4.out (fun _ _ h => h))
  clear p0 p1 q0 q1 x0 x1 y0 y1 hc4 hbe
  have q0 : w4.cell? ⟨w1.heap.size, 0, none⟩ = some (.slice (some ⟨gC, 0, none⟩) p.consts.length c) := blk_cell B2.out 0
  have q1 : w4.cell? ⟨w1.heap.size, 1, none⟩ = some (.slice (some ⟨gF, 0, none⟩) p.funcs.length d) := blk_cell B2.out 1
  have hQ : Aside0 (PV w1 (some ⟨gC, 0, none⟩) (some ⟨gF, 0, none⟩) p (fs.take p.funcs.length)) := ⟨hV.out.view⟩
  have hlast : Aside0 (Calls Tryd.prog 13 #[.agg #[.slice (some ⟨gC, 0, none⟩) p.consts.length c, .slice (some ⟨gF, 0, none⟩) p.funcs.length d], .int .i64 op] w4 (LastQ w4 W0.heap.size)) := ⟨law_last w4 (some ⟨gC, 0, none⟩) gF _ c _ d W0.heap.size op _ (hQ.out.below (hv1.out.below (fun _ _ h => h))).fs hoA.out hm (last_of hO.out hV.out hv1.out (fun f hf => (hcode.out f hf).1))⟩
  go_upto_region 7 with (go_at_call 13; go_must (refine hlast.out.mono ?_); go_must (rintro e w5 ⟨rfl, hpk, hc5⟩); go_must (replace hpk := Aside0.mk hpk); go_must (replace hc5 := Aside0.mk hc5))
  (try simp only [Act.put, List.setIfInBounds_toArray, List.set_cons_zero, List.set_cons_succ])
  clear q0 q1 hlast
  have n1 : ∀ {b : Nat} {cs : Array Value} {t : TypeId}, w4.heap[b]? = some (.cells cs t (0, 0)) → t ≠ 50 → ¬ CodeB w4 W0.heap.size b := fun h ht e => ht (e.2 _ _ _ h)
  replace B1 := Aside0.mk (hc5.out.blk B1.out (n1 B1.out (by decide)))
  replace B3 := Aside0.mk (hc5.out.blk B3.out (n1 B3.out (by decide)))
  replace B4 := Aside0.mk (hc5.out.blk B4.out (n1 B4.out (by decide)))
  have B2' := Aside0.mk (hc5.out.blk B2.out (n1 B2.out (by decide)))
  clear n1 B2
  have hz5 : Aside0 (Chg (fun _ => False) w w5) := ⟨hz0.out.trans hc5.out (fun b hb h => by have := h.1; have := hlo.out.1; omega)⟩
  obtain ⟨p', rs', hw', hl1, hl2, hall⟩ := hQ.out.later hwA.out ((Poke.of_chg hv1.out).trans hpk.out) (Nat.le_trans hv1.out.size hc5.out.size)
  have hallA := Aside0.mk hall
  have hwA' := Aside0.mk hw'
  have hl1A := Aside0.mk hl1
  have hl2A := Aside0.mk hl2
  have hcode' : Aside0 (∀ f ∈ p'.funcs, f.code.length ≤ 1048576 ∧ f.hnd.length ≤ 1048576) := ⟨fun f hf => (hw'.sm.fs f hf).2⟩
  have hn' := hw'.sm.c
  have hm' := hw'.sm.f
  have hs5 : Aside0 (w1.heap.size < w5.heap.size) := ⟨blk_lt B2'.out⟩
  clear hall hw' hl1 hl2 hpk hz0
  rcases hq : checkP chkP p' with ⟨⟨y1, y2⟩, y3⟩
  have hqB := Aside0.mk hq
  clear hq
  have q0 : w5.cell? ⟨w1.heap.size, 0, none⟩ = some (.slice (some ⟨gC, 0, none⟩) p.consts.length c) := blk_cell B2'.out 0
  have q1 : w5.cell? ⟨w1.heap.size, 1, none⟩ = some (.slice (some ⟨gF, 0, none⟩) p.funcs.length d) := blk_cell B2'.out 1
  have hcp : Aside0 (Calls Tryd.prog 14 #[.agg #[.slice (some ⟨gC, 0, none⟩) p.consts.length c, .slice (some ⟨gF, 0, none⟩) p.funcs.length d]] w5 fun e w' => ∃ (vC vF : SV) (rs2 : List QR), e = .returned (.agg #[svl vC, svl vF]) ∧ POwn w' w5.heap.size vC vF p' rs2 ∧ Chg (fun _ => False) w5 w') := ⟨by
    have h := ref_CopyProgram w5 (some ⟨gC, 0, none⟩) (some ⟨gF, 0, none⟩) c d p' rs' (hallA.out w5 (Chg.refl _ _)) hn' hm' hcode'.out
    rw [hl1A.out, hl2A.out] at h
    exact h⟩
  go_upto_region 8 with (first | (go_at_call 14; go_must (refine hcp.out.mono ?_); go_must (rintro e w6 ⟨⟨vA, vN, vK⟩, ⟨uA, uN, uK⟩, rs2, rfl, how, hc6⟩); go_must (obtain ⟨hv9, hu9, hpv⟩ := how.view); go_must (simp only at hv9 hu9 hpv); go_must (subst hv9); go_must (subst hu9); go_must (simp only [svl]); go_must (replace hpv := Aside0.mk hpv); go_must (replace hc6 := Aside0.mk hc6)) | (go_at_call 9; go_must (refine (ref_Check8 w6 vA uA vK uK p' rs2 hpv.out hwA'.out.sm).mono ?_); go_must (rintro e w7 ⟨rfl, hc7⟩); go_must (rw [hqB.out]); go_must (have B3w := hc7.blk (hc6.out.blk B3.out (fun h => h)) (fun h => h)); go_must (have t0 := blk_cell B3w 0); go_must (have t1 := blk_cell B3w 1); go_must (have u0 := blk_frozen B3w 0); go_must (have u1 := blk_frozen B3w 1); go_must (replace B3w := Aside0.mk B3w); go_must (replace hc7 := Aside0.mk hc7)))
  (try simp only [Act.put, List.setIfInBounds_toArray, List.set_cons_zero, List.set_cons_succ])
  clear t0 t1 u0 u1 q0 q1 hcp
  generalize hW : World.setCell (World.setCell w7 _ _) _ _ = W7
  have hs7 : Aside0 (Chg (fun k => k = w2.heap.size) w7 W7) := ⟨by rw [← hW]; exact (Chg.setCell (Chg.setCell (Chg.refl (fun k => k = w2.heap.size) w7) (p := ⟨w2.heap.size, 0, none⟩) (fun _ => rfl) (.int .i64 y1)) (p := ⟨w2.heap.size, 1, none⟩) (fun _ => rfl) (.int .i64 y2))⟩
  have B3x : Aside0 (W7.heap[w2.heap.size]? = some (.cells #[.int .i64 y1, .int .i64 y2] 28)) := ⟨by rw [← hW]; exact blk_set (blk_set B3w.out 0 (.int .i64 y1)) 1 (.int .i64 y2)⟩
  clear hW B3w B3
  have B2'' := Aside0.mk (hs7.out.blk (hc7.out.blk (hc6.out.blk B2'.out (fun h => h)) (fun h => h)) (by have := hlo2.out; omega))
  have B4'' := Aside0.mk (hs7.out.blk (hc7.out.blk (hc6.out.blk B4.out (fun h => h)) (fun h => h)) (by have := hlo3.out; omega))
  have hz7 : Aside0 (Chg (fun _ => False) w W7) := ⟨((hz5.out.trans hc6.out (fun _ _ h => h)).trans hc7.out (fun _ _ h => h)).trans hs7.out (fun k hk h => by have := hlo.out; have := hlo2.out; omega)⟩
  have hv7 : Aside0 (Chg (fun b => w1.heap.size ≤ b) w5 W7) := ⟨(((hc6.out.mono (S' := fun b => w1.heap.size ≤ b) (fun _ _ h => h.elim)).trans hc7.out (fun _ _ h => h.elim)).trans hs7.out (fun k hk h => by have := hlo2.out; omega))⟩
  clear B2' B4 hc6 hc7 hs7
  have q0 : W7.cell? ⟨w1.heap.size, 0, none⟩ = some (.slice (some ⟨gC, 0, none⟩) p.consts.length c) := blk_cell B2''.out 0
  have q1 : W7.cell? ⟨w1.heap.size, 1, none⟩ = some (.slice (some ⟨gF, 0, none⟩) p.funcs.length d) := blk_cell B2''.out 1
  have hck : Aside0 (Calls Tryd.prog 10 #[.agg #[.slice (some ⟨gC, 0, none⟩) p.consts.length c, .slice (some ⟨gF, 0, none⟩) p.funcs.length d]] W7 fun e w' => e = .returned (.tuple #[.agg #[.int .i64 y1, .int .i64 y2], .int .i64 y3]) ∧ Chg (fun _ => False) W7 w') := ⟨by
    have h := prog_Check W7 (some ⟨gC, 0, none⟩) (some ⟨gF, 0, none⟩) c d p' rs' (hallA.out W7 hv7.out) hwA'.out (cell_chg0 hEA.out hz7.out)
    rw [hl1A.out, hl2A.out, hqB.out] at h
    exact h⟩
  go_upto_region 9 with (go_at_call 10; go_must (refine hck.out.mono ?_); go_must (rintro e w8 ⟨rfl, hc8⟩); go_must (have B4w := hc8.blk B4''.out (fun h => h)); go_must (have t0 := blk_cell B4w 0); go_must (have t1 := blk_cell B4w 1); go_must (have u0 := blk_frozen B4w 0); go_must (have u1 := blk_frozen B4w 1); go_must (replace B4w := Aside0.mk B4w); go_must (replace hc8 := Aside0.mk hc8))
  (try simp only [Act.put, List.setIfInBounds_toArray, List.set_cons_zero, List.set_cons_succ])
  clear t0 t1 u0 u1 q0 q1 hck
  generalize hW : World.setCell (World.setCell w8 _ _) _ _ = W8
  have hs8 : Aside0 (Chg (fun k => k = w3.heap.size) w8 W8) := ⟨by rw [← hW]; exact (Chg.setCell (Chg.setCell (Chg.refl (fun k => k = w3.heap.size) w8) (p := ⟨w3.heap.size, 0, none⟩) (fun _ => rfl) (.int .i64 y1)) (p := ⟨w3.heap.size, 1, none⟩) (fun _ => rfl) (.int .i64 y2))⟩
  have B4x : Aside0 (W8.heap[w3.heap.size]? = some (.cells #[.int .i64 y1, .int .i64 y2] 28)) := ⟨by rw [← hW]; exact blk_set (blk_set B4w.out 0 (.int .i64 y1)) 1 (.int .i64 y2)⟩
  have B3y := Aside0.mk (hs8.out.blk (hc8.out.blk B3x.out (fun h => h)) (by have := hlo3.out; omega))
  have hz8 : Aside0 (Chg (fun _ => False) w W8) := ⟨(hz7.out.trans hc8.out (fun _ _ h => h)).trans hs8.out (fun k hk h => by have := hlo.out; have := hlo2.out; have := hlo3.out; omega)⟩
  clear hW B4w hc8 hs8
  have x0 : W8.cell? ⟨w2.heap.size, 0, none⟩ = some (.int .i64 y1) := blk_cell B3y.out 0
  have x1 : W8.cell? ⟨w2.heap.size, 1, none⟩ = some (.int .i64 y2) := blk_cell B3y.out 1
  have v0 : W8.cell? ⟨w3.heap.size, 0, none⟩ = some (.int .i64 y1) := blk_cell B4x.out 0
  have v1 : W8.cell? ⟨w3.heap.size, 1, none⟩ = some (.int .i64 y2) := blk_cell B4x.out 1
  go_wp2_with (go_at_call 11; go_must (refine (kit_Num _ _).mono ?_); go_must (rintro e wn ⟨rfl, hwn⟩); go_must (subst wn))
  go_ret
  exact ⟨by first | rfl | simp, hz8.out⟩
end Go.Proofs.YtgaackedappmgaaDoor.K
