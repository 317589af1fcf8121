import Derived.Test.YtdoghjmanogelaaQh
import Derived.IntWalk
namespace Go.Proofs.Ytdoghjmanogelaa.K
open Go.RowKit Go.Proofs.YtdoghjmanogelaaW.PrintWords Go.Proofs.YtdoghjmanogelaaW.PrintLast Go.Proofs.YtdoghjmanogelaaW.PrintMore
set_option linter.unusedVariables false
set_option linter.unusedSimpArgs false
set_option maxRecDepth 100000
structure QV where
  kind : Int
  n : Int
def kQV : Kd QV := Kd.iso (Kd.pair (Kd.int .i64) (Kd.int .i64)) (fun p => (p.kind, p.n))
abbrev cellsQV (p : QV) : List Value := [.int .i64 p.kind, .int .i64 p.n]
theorem kQV_K (w : World) (p : QV) (cs : List Value) : kQV.K w p cs ↔ cs = cellsQV p := by
  constructor
  · rintro ⟨_, _, rfl, rfl, rfl⟩; rfl
  · rintro rfl; exact ⟨[_], _, rfl, rfl, rfl⟩
theorem kQV_M (w : World) (base : Nat) (ok : Nat → Prop) (p : QV) : kQV.M w base ok p (cellsQV p) := ⟨[_], _, rfl, rfl, rfl⟩
structure RO where
  kind : Int
  items : SV
  keys : SV
  fn : Int
  cap : Int
  shut : Bool
def kRO : Kd RO := Kd.iso (Kd.pair (Kd.int .i64) (Kd.pair kSV (Kd.pair kSV (Kd.pair (Kd.int .i64) (Kd.pair (Kd.int .i64) Kd.bool))))) (fun p => (p.kind, (p.items, (p.keys, (p.fn, (p.cap, p.shut))))))
abbrev cellsRO (p : RO) : List Value := [.int .i64 p.kind, .slice p.items.1 p.items.2.1 p.items.2.2, .slice p.keys.1 p.keys.2.1 p.keys.2.2, .int .i64 p.fn, .int .i64 p.cap, .bool p.shut]
theorem kRO_K (w : World) (p : RO) (cs : List Value) : kRO.K w p cs ↔ cs = cellsRO p := by
  constructor
  · rintro ⟨_, _, rfl, rfl, _, _, rfl, rfl, _, _, rfl, rfl, _, _, rfl, rfl, _, _, rfl, rfl, rfl⟩; rfl
  · rintro rfl; exact ⟨[_], _, rfl, rfl, [_], _, rfl, rfl, [_], _, rfl, rfl, [_], _, rfl, rfl, [_], _, rfl, rfl, rfl⟩
theorem kRO_M (w : World) (base : Nat) (ok : Nat → Prop) (p : RO) : kRO.M w base ok p (cellsRO p) := ⟨[_], _, rfl, rfl, [_], _, rfl, rfl, [_], _, rfl, rfl, [_], _, rfl, rfl, [_], _, rfl, rfl, rfl⟩
theorem atRO {w : World} {A : Option Addr} {n : Nat} {l : List RO} (h : Kd.C kRO w A n l) (i : Nat) (h1 : i < n) : ∃ ad r, A = some ad ∧ l[i]? = some r ∧ w.cell? (ad.add (i * 6)) = some (.int .i64 r.kind) ∧ w.cell? ⟨(ad.add (i * 6)).block, (ad.add (i * 6)).off + 1, none⟩ = some (.slice r.items.1 r.items.2.1 r.items.2.2) ∧ w.cell? ⟨(ad.add (i * 6)).block, (ad.add (i * 6)).off + 2, none⟩ = some (.slice r.keys.1 r.keys.2.1 r.keys.2.2) ∧ w.cell? ⟨(ad.add (i * 6)).block, (ad.add (i * 6)).off + 3, none⟩ = some (.int .i64 r.fn) ∧ w.cell? ⟨(ad.add (i * 6)).block, (ad.add (i * 6)).off + 4, none⟩ = some (.int .i64 r.cap) ∧ w.cell? ⟨(ad.add (i * 6)).block, (ad.add (i * 6)).off + 5, none⟩ = some (.bool r.shut) := by
  obtain ⟨e1, e2, e3⟩ := h
  obtain ⟨ad, ea, hc⟩ := e3 (by omega)
  have hi : i < l.length := by omega
  obtain ⟨cs, _, hk, hcell⟩ := hc i _ (List.getElem?_eq_getElem hi)
  rw [kRO_K] at hk
  subst hk
  have g1 := hcell 1 _ rfl
  have g2 := hcell 2 _ rfl
  have g3 := hcell 3 _ rfl
  have g4 := hcell 4 _ rfl
  have g5 := hcell 5 _ rfl
  have e5 : kRO.sz = 6 := rfl
  rw [e5] at g1 g2 g3 g4 g5
  rw [← add_add] at g1 g2 g3 g4 g5
  exact ⟨ad, l[i], ea, List.getElem?_eq_getElem hi, hcell 0 _ rfl, g1, g2, g3, g4, g5⟩
theorem ownRO {w : World} {g n : Nat} {l : List RO} {r : RO} (h : Kd.C kRO w (some ⟨g, 0, none⟩) n l) (i : Nat) (h1 : i < n) (hr : l[i]? = some r) : w.cell? ⟨g, i * 6, none⟩ = some (.int .i64 r.kind) ∧ w.cell? ⟨g, i * 6 + 1, none⟩ = some (.slice r.items.1 r.items.2.1 r.items.2.2) ∧ w.cell? ⟨g, i * 6 + 2, none⟩ = some (.slice r.keys.1 r.keys.2.1 r.keys.2.2) ∧ w.cell? ⟨g, i * 6 + 3, none⟩ = some (.int .i64 r.fn) ∧ w.cell? ⟨g, i * 6 + 4, none⟩ = some (.int .i64 r.cap) ∧ w.cell? ⟨g, i * 6 + 5, none⟩ = some (.bool r.shut) := by
  obtain ⟨ad, q, e1, e2, g0, g1, g2, g3, g4, g5⟩ := atRO h i h1
  injection e1 with e1
  subst e1
  rw [hr] at e2
  injection e2 with e2
  subst e2
  rw [add_plain] at g0 g1 g2 g3 g4 g5
  exact ⟨g0, g1, g2, g3, g4, g5⟩
structure RF where
  fn : Int
  pc : Int
  slots : SV
def kRF : Kd RF := Kd.iso (Kd.pair (Kd.int .i64) (Kd.pair (Kd.int .i64) kSV)) (fun p => (p.fn, (p.pc, p.slots)))
abbrev cellsRF (p : RF) : List Value := [.int .i64 p.fn, .int .i64 p.pc, .slice p.slots.1 p.slots.2.1 p.slots.2.2]
theorem kRF_K (w : World) (p : RF) (cs : List Value) : kRF.K w p cs ↔ cs = cellsRF p := by
  constructor
  · rintro ⟨_, _, rfl, rfl, _, _, rfl, rfl, rfl⟩; rfl
  · rintro rfl; exact ⟨[_], _, rfl, rfl, [_], _, rfl, rfl, rfl⟩
theorem kRF_M (w : World) (base : Nat) (ok : Nat → Prop) (p : RF) : kRF.M w base ok p (cellsRF p) := ⟨[_], _, rfl, rfl, [_], _, rfl, rfl, rfl⟩
theorem atRF {w : World} {A : Option Addr} {n : Nat} {l : List RF} (h : Kd.C kRF w A n l) (i : Nat) (h1 : i < n) : ∃ ad r, A = some ad ∧ l[i]? = some r ∧ w.cell? (ad.add (i * 3)) = some (.int .i64 r.fn) ∧ w.cell? ⟨(ad.add (i * 3)).block, (ad.add (i * 3)).off + 1, none⟩ = some (.int .i64 r.pc) ∧ w.cell? ⟨(ad.add (i * 3)).block, (ad.add (i * 3)).off + 2, none⟩ = some (.slice r.slots.1 r.slots.2.1 r.slots.2.2) := by
  obtain ⟨e1, e2, e3⟩ := h
  obtain ⟨ad, ea, hc⟩ := e3 (by omega)
  have hi : i < l.length := by omega
  obtain ⟨cs, _, hk, hcell⟩ := hc i _ (List.getElem?_eq_getElem hi)
  rw [kRF_K] at hk
  subst hk
  have g1 := hcell 1 _ rfl
  have g2 := hcell 2 _ rfl
  have e5 : kRF.sz = 3 := rfl
  rw [e5] at g1 g2
  rw [← add_add] at g1 g2
  exact ⟨ad, l[i], ea, List.getElem?_eq_getElem hi, hcell 0 _ rfl, g1, g2⟩
theorem ownRF {w : World} {g n : Nat} {l : List RF} {r : RF} (h : Kd.C kRF w (some ⟨g, 0, none⟩) n l) (i : Nat) (h1 : i < n) (hr : l[i]? = some r) : w.cell? ⟨g, i * 3, none⟩ = some (.int .i64 r.fn) ∧ w.cell? ⟨g, i * 3 + 1, none⟩ = some (.int .i64 r.pc) ∧ w.cell? ⟨g, i * 3 + 2, none⟩ = some (.slice r.slots.1 r.slots.2.1 r.slots.2.2) := by
  obtain ⟨ad, q, e1, e2, g0, g1, g2⟩ := atRF h i h1
  injection e1 with e1
  subst e1
  rw [hr] at e2
  injection e2 with e2
  subst e2
  rw [add_plain] at g0 g1 g2
  exact ⟨g0, g1, g2⟩
structure RB where
  frames : SV
def kRB : Kd RB := Kd.iso kSV (fun p => p.frames)
abbrev cellsRB (p : RB) : List Value := [.slice p.frames.1 p.frames.2.1 p.frames.2.2]
theorem kRB_K (w : World) (p : RB) (cs : List Value) : kRB.K w p cs ↔ cs = cellsRB p := by
  constructor
  · rintro rfl; rfl
  · rintro rfl; exact rfl
theorem kRB_M (w : World) (base : Nat) (ok : Nat → Prop) (p : RB) : kRB.M w base ok p (cellsRB p) := rfl
theorem atRB {w : World} {A : Option Addr} {n : Nat} {l : List RB} (h : Kd.C kRB w A n l) (i : Nat) (h1 : i < n) : ∃ ad r, A = some ad ∧ l[i]? = some r ∧ w.cell? (ad.add i) = some (.slice r.frames.1 r.frames.2.1 r.frames.2.2) := by
  obtain ⟨e1, e2, e3⟩ := h
  obtain ⟨ad, ea, hc⟩ := e3 (by omega)
  have hi : i < l.length := by omega
  obtain ⟨cs, _, hk, hcell⟩ := hc i _ (List.getElem?_eq_getElem hi)
  rw [kRB_K] at hk
  subst hk
  have g0 := hcell 0 _ rfl
  have e5 : kRB.sz = 1 := rfl
  rw [e5, Nat.mul_one, Nat.add_zero] at g0
  exact ⟨ad, l[i], ea, List.getElem?_eq_getElem hi, g0⟩
theorem ownRB {w : World} {g n : Nat} {l : List RB} {r : RB} (h : Kd.C kRB w (some ⟨g, 0, none⟩) n l) (i : Nat) (h1 : i < n) (hr : l[i]? = some r) : w.cell? ⟨g, i, none⟩ = some (.slice r.frames.1 r.frames.2.1 r.frames.2.2) := by
  obtain ⟨ad, q, e1, e2, g0⟩ := atRB h i h1
  injection e1 with e1
  subst e1
  rw [hr] at e2
  injection e2 with e2
  subst e2
  rw [add_plain] at g0
  exact g0
structure QO where
  kind : Int
  items : List QV
  keys : List Int
  fn : Int
  cap : Int
  shut : Bool
structure QFr where
  fn : Int
  pc : Int
  slots : List QV
structure QB where
  frames : List QFr
structure QS where
  texts : List ByteArray
  objs : List QO
  fibers : List QB
  cur : Int
  steps : Int
  spent : Int
  read : Int
def kQO : Kd QO := Kd.iso (Kd.pair (Kd.int .i64) (Kd.pair (Kd.slice 56 kQV) (Kd.pair (Kd.slice 2 (Kd.int .i64)) (Kd.pair (Kd.int .i64) (Kd.pair (Kd.int .i64) Kd.bool))))) (fun p => (p.kind, p.items, p.keys, p.fn, p.cap, p.shut))
def kQFr : Kd QFr := Kd.iso (Kd.pair (Kd.int .i64) (Kd.pair (Kd.int .i64) (Kd.slice 56 kQV))) (fun p => (p.fn, p.pc, p.slots))
def kQB : Kd QB := Kd.iso (Kd.slice 54 kQFr) (fun p => p.frames)
def kQS : Kd QS := Kd.iso (Kd.pair (Kd.slice 9 Kd.string) (Kd.pair (Kd.slice 59 kQO) (Kd.pair (Kd.slice 51 kQB) (Kd.pair (Kd.int .i64) (Kd.pair (Kd.int .i64) (Kd.pair (Kd.int .i64) (Kd.int .i64))))))) (fun p => (p.texts, p.objs, p.fibers, p.cur, p.steps, p.spent, p.read))
def RawO (w : World) (r : RO) (x : QO) : Prop := r.kind = x.kind ∧ r.fn = x.fn ∧ r.cap = x.cap ∧ r.shut = x.shut ∧ Kd.C kQV w r.items.1 r.items.2.1 x.items ∧ Kd.C (Kd.int .i64) w r.keys.1 r.keys.2.1 x.keys
def RawF (w : World) (r : RF) (x : QFr) : Prop := r.fn = x.fn ∧ r.pc = x.pc ∧ Kd.C kQV w r.slots.1 r.slots.2.1 x.slots
def RawB (w : World) (r : RB) (l : List RF) (x : QB) : Prop := Kd.C kRF w r.frames.1 r.frames.2.1 l ∧ l.length = x.frames.length ∧ ∀ (k : Nat) (q : RF) (f : QFr), l[k]? = some q → x.frames[k]? = some f → RawF w q f
theorem RawO.below {w w' : World} {r : RO} {x : QO} (h : RawO w r x) (hb : Below w.heap.size w w') : RawO w' r x := ⟨h.1, h.2.1, h.2.2.1, h.2.2.2.1, Kd.C_below h.2.2.2.2.1 hb, Kd.C_below h.2.2.2.2.2 hb⟩
theorem RawF.below {w w' : World} {r : RF} {x : QFr} (h : RawF w r x) (hb : Below w.heap.size w w') : RawF w' r x := ⟨h.1, h.2.1, Kd.C_below h.2.2 hb⟩
theorem RawB.below {w w' : World} {r : RB} {l : List RF} {x : QB} (h : RawB w r l x) (hb : Below w.heap.size w w') : RawB w' r l x := ⟨Kd.C_below h.1 hb, h.2.1, fun k q f h1 h2 => (h.2.2 k q f h1 h2).below hb⟩
structure SView (w : World) (tA oA bA : Option Addr) (s : QS) (ros : List RO) (rbs : List RB) (L : List (List RF)) : Prop where
  ts : Kd.C Kd.string w tA s.texts.length s.texts
  os : Kd.C kRO w oA s.objs.length ros
  bs : Kd.C kRB w bA s.fibers.length rbs
  ll : L.length = s.fibers.length
  ro : ∀ (k : Nat) (r : RO) (x : QO), ros[k]? = some r → s.objs[k]? = some x → RawO w r x
  rb : ∀ (k : Nat) (r : RB) (l : List RF) (x : QB), rbs[k]? = some r → L[k]? = some l → s.fibers[k]? = some x → RawB w r l x
theorem SView.below {w w' : World} {tA oA bA : Option Addr} {s : QS} {ros : List RO} {rbs : List RB} {L : List (List RF)} (h : SView w tA oA bA s ros rbs L) (hb : Below w.heap.size w w') : SView w' tA oA bA s ros rbs L :=
  ⟨Kd.C_below h.ts hb, Kd.C_below h.os hb, Kd.C_below h.bs hb, h.ll, fun k r x h1 h2 => (h.ro k r x h1 h2).below hb, fun k r l x h1 h2 h3 => (h.rb k r l x h1 h2 h3).below hb⟩
theorem rows_of {α ρ : Type} {d : Kd α} {r : Kd ρ} {w : World} {A : Option Addr} {n : Nat} {l : List α} (Rel : ρ → α → Prop) (h : d.C w A n l) (hk : ∀ p cs, d.K w p cs → ∃ x, r.K w x cs ∧ Rel x p) (hsz : r.sz = d.sz) : ∃ rs : List ρ, r.C w A n rs ∧ rs.length = n ∧ ∀ (i : Nat) (x : ρ) (p : α), rs[i]? = some x → l[i]? = some p → Rel x p := by
  obtain ⟨e1, e2, e3⟩ := h
  have hch : ∀ i, i < n → ∃ x : ρ, ∀ p, l[i]? = some p → Rel x p ∧ ∀ ad, A = some ad → ∃ cs : List Value, cs.length = r.sz ∧ r.K w x cs ∧ ∀ j u, cs[j]? = some u → w.cell? (ad.add (i * r.sz + j)) = some u := by
    intro i hi
    obtain ⟨ad, ea, hc⟩ := e3 (by omega)
    have hil : i < l.length := by omega
    obtain ⟨cs, hl, hK, hcell⟩ := hc i _ (List.getElem?_eq_getElem hil)
    obtain ⟨x, hx, hR⟩ := hk _ _ hK
    refine ⟨x, fun p hp => ?_⟩
    rw [List.getElem?_eq_getElem hil] at hp
    injection hp with hp
    subst hp
    refine ⟨hR, fun ad' ea' => ?_⟩
    rw [ea] at ea'
    injection ea' with ea'
    subst ea'
    rw [hsz]
    exact ⟨cs, hl, hx, hcell⟩
  obtain ⟨rs, hrl, hrs⟩ := list_choose n hch
  refine ⟨rs, ⟨hrl, e2, fun h0 => ?_⟩, hrl, fun i x p hx hp => (hrs i x hx p hp).1⟩
  obtain ⟨ad, ea, _⟩ := e3 h0
  refine ⟨ad, ea, fun j x hx => ?_⟩
  have hj : j < l.length := by have := (List.getElem?_eq_some_iff.1 hx).1; omega
  exact (hrs j x hx _ (List.getElem?_eq_getElem hj)).2 ad ea
theorem kQO_raw {w : World} (p : QO) (cs : List Value) (h : kQO.K w p cs) : ∃ x, kRO.K w x cs ∧ RawO w x p := by
  obtain ⟨_, _, rfl, rfl, _, _, rfl, ⟨A, c, rfl, h1, h2⟩, _, _, rfl, ⟨B, d, rfl, h3, h4⟩, _, _, rfl, rfl, _, _, rfl, rfl, rfl⟩ := h
  exact ⟨⟨p.kind, (A, _, c), (B, _, d), p.fn, p.cap, p.shut⟩, (kRO_K _ _ _).2 rfl, rfl, rfl, rfl, rfl, h2, h4⟩
theorem kQFr_raw {w : World} (p : QFr) (cs : List Value) (h : kQFr.K w p cs) : ∃ x, kRF.K w x cs ∧ RawF w x p := by
  obtain ⟨_, _, rfl, rfl, _, _, rfl, rfl, ⟨A, c, rfl, h1, h2⟩⟩ := h
  exact ⟨⟨p.fn, p.pc, (A, _, c)⟩, (kRF_K _ _ _).2 rfl, rfl, rfl, h2⟩
theorem kQB_raw {w : World} (p : QB) (cs : List Value) (h : kQB.K w p cs) : ∃ x, kRB.K w x cs ∧ ∃ l, RawB w x l p := by
  obtain ⟨A, c, rfl, h1, h2⟩ := h
  obtain ⟨rs, h3, h4, h5⟩ := rows_of (r := kRF) (fun x p => RawF w x p) h2 (fun p cs h => kQFr_raw p cs h) rfl
  exact ⟨⟨(A, _, c)⟩, (kRB_K _ _ _).2 rfl, rs, h3, h4, h5⟩
theorem state_in {w : World} {s : QS} {cs : List Value} (h : kQS.K w s cs) : ∃ tA tc oA oc bA bc ros rbs L, cs = [.slice tA s.texts.length tc, .slice oA s.objs.length oc, .slice bA s.fibers.length bc, .int .i64 s.cur, .int .i64 s.steps, .int .i64 s.spent, .int .i64 s.read] ∧ SView w tA oA bA s ros rbs L := by
  obtain ⟨_, _, rfl, ⟨tA, tc, rfl, h1, h2⟩, _, _, rfl, ⟨oA, oc, rfl, h3, h4⟩, _, _, rfl, ⟨bA, bc, rfl, h5, h6⟩, _, _, rfl, rfl, _, _, rfl, rfl, _, _, rfl, rfl, rfl⟩ := h
  obtain ⟨ros, h7, h8, h9⟩ := rows_of (r := kRO) (fun x p => RawO w x p) h4 (fun p cs h => kQO_raw p cs h) rfl
  obtain ⟨rbs, h10, h11, h12⟩ := rows_of (r := kRB) (fun x p => ∃ l, RawB w x l p) h6 (fun p cs h => kQB_raw p cs h) rfl
  have h11' : rbs.length = s.fibers.length := h11
  have hL : ∀ i, i < s.fibers.length → ∃ l : List RF, ∀ r x, rbs[i]? = some r → s.fibers[i]? = some x → RawB w r l x := fun i hi => by
    obtain ⟨r, hr⟩ : ∃ r, rbs[i]? = some r := ⟨_, List.getElem?_eq_getElem (by omega)⟩
    obtain ⟨l, hl⟩ := h12 i r _ hr (List.getElem?_eq_getElem hi)
    refine ⟨l, fun r' x' hr' hx' => ?_⟩
    rw [hr] at hr'
    injection hr' with hr'
    rw [List.getElem?_eq_getElem hi] at hx'
    injection hx' with hx'
    subst hr' hx'
    exact hl
  obtain ⟨L, hLl, hLs⟩ := list_choose s.fibers.length hL
  exact ⟨tA, tc, oA, oc, bA, bc, ros, rbs, L, rfl, h2, h7, h10, hLl, h9, fun k r l x h1 h2 h3 => hLs k l h2 r x h1 h3⟩
def okQV (p : QV) : Prop := (Lit.int .i64 p.kind).wf = true ∧ (Lit.int .i64 p.n).wf = true
def okQO (p : QO) : Prop := (Lit.int .i64 p.kind).wf = true ∧ ((p.items.length * 16 ≤ reachBytes ∧ ∀ x ∈ p.items, okQV x) ∧ ((p.keys.length * 8 ≤ reachBytes ∧ ∀ x ∈ p.keys, (Lit.int .i64 x).wf = true) ∧ ((Lit.int .i64 p.fn).wf = true ∧ ((Lit.int .i64 p.cap).wf = true ∧ True))))
def okQFr (p : QFr) : Prop := (Lit.int .i64 p.fn).wf = true ∧ ((Lit.int .i64 p.pc).wf = true ∧ (p.slots.length * 16 ≤ reachBytes ∧ ∀ x ∈ p.slots, okQV x))
def okQB (p : QB) : Prop := p.frames.length * 40 ≤ reachBytes ∧ ∀ x ∈ p.frames, okQFr x
def okQS (p : QS) : Prop := (p.texts.length * 16 ≤ reachBytes ∧ ∀ x ∈ p.texts, x.size ≤ 140737488351232) ∧ ((p.objs.length * 80 ≤ reachBytes ∧ ∀ x ∈ p.objs, okQO x) ∧ ((p.fibers.length * 24 ≤ reachBytes ∧ ∀ x ∈ p.fibers, okQB x) ∧ ((Lit.int .i64 p.cur).wf = true ∧ ((Lit.int .i64 p.steps).wf = true ∧ ((Lit.int .i64 p.spent).wf = true ∧ (Lit.int .i64 p.read).wf = true)))))
theorem opens_QV : Opens Try.prog 56 kQV okQV (fun p => 1) :=
  (Opens.iso (β := QV) (Opens.struct Try.underlying56 (by kernel_rfl) (OpensF.cons (Opens.int Try.underlying3 (by kernel_rfl)) (OpensF.one (Opens.int Try.underlying2 (by kernel_rfl))))) (fun p => (p.kind, p.n)) (fun p => ⟨p.1, p.2⟩) (fun _ => rfl)).imp (fun _ h => h) (fun p => by first | omega | (dsimp only; omega))
theorem opens_QO : Opens Try.prog 59 kQO okQO (fun p => p.items.length + p.keys.length + 1) :=
  (Opens.iso (β := QO) (Opens.struct Try.underlying59 (by kernel_rfl) (OpensF.cons (Opens.int Try.underlying3 (by kernel_rfl)) (OpensF.cons (Opens.slice Try.underlying52 (by kernel_rfl) (by kernel_rfl) opens_QV) (OpensF.cons (Opens.slice Try.underlying57 (by kernel_rfl) (by kernel_rfl) (Opens.int Try.underlying2 (by kernel_rfl))) (OpensF.cons (Opens.int Try.underlying3 (by kernel_rfl)) (OpensF.cons (Opens.int Try.underlying3 (by kernel_rfl)) (OpensF.one (Opens.bool Try.underlying4 (by kernel_rfl))))))))) (fun p => (p.kind, p.items, p.keys, p.fn, p.cap, p.shut)) (fun p => ⟨p.1, p.2.1, p.2.2.1, p.2.2.2.1, p.2.2.2.2.1, p.2.2.2.2.2⟩) (fun _ => rfl)).imp (fun _ h => h) (fun p => by have h0 := sum_len (bk := fun _ : QV => 1) p.items (fun _ _ => Nat.le_refl _); have h1 := sum_len (bk := fun _ : Int => 1) p.keys (fun _ _ => Nat.le_refl _); first | omega | (dsimp only; omega))
theorem opens_QFr : Opens Try.prog 54 kQFr okQFr (fun p => p.slots.length + 1) :=
  (Opens.iso (β := QFr) (Opens.struct Try.underlying54 (by kernel_rfl) (OpensF.cons (Opens.int Try.underlying3 (by kernel_rfl)) (OpensF.cons (Opens.int Try.underlying3 (by kernel_rfl)) (OpensF.one (Opens.slice Try.underlying52 (by kernel_rfl) (by kernel_rfl) opens_QV))))) (fun p => (p.fn, p.pc, p.slots)) (fun p => ⟨p.1, p.2.1, p.2.2⟩) (fun _ => rfl)).imp (fun _ h => h) (fun p => by have h0 := sum_len (bk := fun _ : QV => 1) p.slots (fun _ _ => Nat.le_refl _); first | omega | (dsimp only; omega))
theorem opens_QB : Opens Try.prog 51 kQB okQB (fun p => (p.frames.map (fun f => f.slots.length + 1)).sum + 1) :=
  (Opens.iso (β := QB) (Opens.struct Try.underlying51 (by kernel_rfl) (OpensF.one (Opens.slice Try.underlying49 (by kernel_rfl) (by kernel_rfl) opens_QFr))) (fun p => p.frames) (fun p => ⟨p⟩) (fun _ => rfl)).imp (fun _ h => h) (fun p => by first | omega | (dsimp only; omega))
theorem opens_QS : Opens Try.prog 40 kQS okQS (fun p => p.texts.length + (p.objs.map (fun x => x.items.length + x.keys.length + 1)).sum + (p.fibers.map (fun b => (b.frames.map (fun f => f.slots.length + 1)).sum + 1)).sum) :=
  (Opens.iso (β := QS) (Opens.struct Try.underlying40 (by kernel_rfl) (OpensF.cons (Opens.slice Try.underlying36 (by kernel_rfl) (by kernel_rfl) (Opens.string Try.underlying9 (by kernel_rfl))) (OpensF.cons (Opens.slice Try.underlying37 (by kernel_rfl) (by kernel_rfl) opens_QO) (OpensF.cons (Opens.slice Try.underlying38 (by kernel_rfl) (by kernel_rfl) opens_QB) (OpensF.cons (Opens.int Try.underlying3 (by kernel_rfl)) (OpensF.cons (Opens.int Try.underlying3 (by kernel_rfl)) (OpensF.cons (Opens.int Try.underlying3 (by kernel_rfl)) (OpensF.one (Opens.int Try.underlying3 (by kernel_rfl)))))))))) (fun p => (p.texts, p.objs, p.fibers, p.cur, p.steps, p.spent, p.read)) (fun p => ⟨p.1, p.2.1, p.2.2.1, p.2.2.2.1, p.2.2.2.2.1, p.2.2.2.2.2.1, p.2.2.2.2.2.2⟩) (fun _ => rfl)).imp (fun _ h => h) (fun p => by have h1 := sum_len (bk := fun s : ByteArray => s.size + 1) p.texts (fun _ _ => by omega); first | omega | (dsimp only; omega))
end Go.Proofs.Ytdoghjmanogelaa.K
