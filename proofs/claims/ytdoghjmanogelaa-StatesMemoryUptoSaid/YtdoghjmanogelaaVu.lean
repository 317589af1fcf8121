import Derived.Test.YtdoghjmanogelaaTz
import Derived.Test.YtdoghjmanogelaaSt
import Derived.Test.YtdoghjmanogelaaVv
import Derived.Test.YtdoghjmanogelaaUg
import Derived.Test.YtdoghjmanogelaaVw
import Derived.Test.YtdoghjmanogelaaVh
namespace Go.Proofs.Ytdoghjmanogelaa.K
open Go.RowKit Go.Proofs.YtdoghjmanogelaaW.PrintWords Go.Proofs.YtdoghjmanogelaaW.PrintLast Go.Proofs.YtdoghjmanogelaaW.PrintMore
set_option linter.unusedVariables false
set_option linter.unusedSimpArgs false
theorem mapS_map {σ α β γ : Type} {f : σ → α → β × σ} {g : β → γ} {h : α → γ} (hf : ∀ b v, g (f b v).1 = h v) (b : σ) (l : List α) : (mapS f b l).1.map g = l.map h := by
  have : ∀ (a : List β × σ), (l.foldl (fun a v => (a.1 ++ [(f a.2 v).1], (f a.2 v).2)) a).1.map g = a.1.map g ++ l.map h := by
    induction l with
    | nil => intro a; simp
    | cons x l ih => intro a; rw [List.foldl_cons, ih]; simp [hf]
  rw [mapS, this]
  rfl
theorem startQ_map (s : QS) : (startQ s).1.map (fun b => b.frames.map (fun f => f.slots.length)) = s.fibers.map (fun b => b.frames.map (fun f => f.slots.length)) :=
  mapS_map (f := numB s) (g := fun x : QB => x.frames.map (fun f => f.slots.length)) (h := fun x : QB => x.frames.map (fun f => f.slots.length)) (fun b v => mapS_map (f := numF s) (g := fun f : QFr => f.slots.length) (h := fun f : QFr => f.slots.length) (fun b f => mapS_len (numV s) f.slots b) b v.frames) _ s.fibers
theorem fieldsS_sz (s : QS) (b : Bk) (keys : List Int) (items : List QV) (n : Nat) : (fieldsS s b keys items n).1.1.length ≤ n ∧ (fieldsS s b keys items n).1.2.length ≤ n := by
  induction n with
  | zero => exact ⟨Nat.le_refl _, Nat.le_refl _⟩
  | succ n ih =>
    rw [fieldsS_succ]
    obtain ⟨h1, h2⟩ := ih
    unfold fieldS
    cases keys[n]? with
    | none => cases items[n]? with
      | none => exact ⟨by simp only; omega, by simp only; omega⟩
      | some v => exact ⟨by simp only; omega, by simp only [List.length_append, List.length_singleton]; omega⟩
    | some k => cases items[n]? with
      | none => exact ⟨by simp only [List.length_append, List.length_singleton]; omega, by simp only; omega⟩
      | some v => exact ⟨by simp only [List.length_append, List.length_singleton]; omega, by simp only [List.length_append, List.length_singleton]; omega⟩
theorem numO_sz (s : QS) (b : Bk) (o : QO) (h1 : o.items.length ≤ 1048576) (h2 : o.keys.length ≤ 1048576) : (numO s b o).1.items.length ≤ 1048576 ∧ (numO s b o).1.keys.length ≤ 1048576 := by
  unfold numO
  split
  · exact ⟨by simp only; rw [mapS_len]; exact h1, h2⟩
  · obtain ⟨h3, h4⟩ := fieldsS_sz s b o.keys o.items (max o.keys.length o.items.length)
    exact ⟨by simp only; omega, by simp only; omega⟩
theorem iterO_small (s : QS) (b : Bk) (h : ∀ x ∈ s.objs, x.items.length ≤ 1048576 ∧ x.keys.length ≤ 1048576) (n : Nat) : (iterO s b n).1.length ≤ n ∧ ∀ x ∈ (iterO s b n).1, x.items.length ≤ 1048576 ∧ x.keys.length ≤ 1048576 := by
  induction n with
  | zero => exact ⟨Nat.le_refl _, fun x hx => by cases hx⟩
  | succ n ih =>
    obtain ⟨h1, h2⟩ := ih
    rw [iterO]
    unfold stepO
    split
    · exact ⟨by omega, h2⟩
    · split
      · exact ⟨by omega, h2⟩
      · rename_i o ho
        refine ⟨by simp only [List.length_append, List.length_singleton]; omega, fun x hx => ?_⟩
        rcases List.mem_append.1 hx with hx | hx
        · exact h2 x hx
        · rw [List.mem_singleton.1 hx]
          have := h o (List.mem_of_getElem? ho)
          exact numO_sz s _ o this.1 this.2
theorem canon_small {s : QS} (h : SSmall s) : SSmall (CanonQ s) ∧ (rowsB (CanonQ s).fibers).length = (rowsB s.fibers).length := by
  have hm := startQ_map s
  have hi := iterO_small s (startQ s).2 h.oi s.objs.length
  have hk := iterO_ok (startQ_ok s) s.objs.length
  refine ⟨⟨?_, Nat.le_trans hi.1 h.o, ?_, hi.2, fun x hx => ?_⟩, ?_⟩
  · show (textsQ s (endQ s).2.ts).length ≤ _
    rw [textsQ, List.length_map]
    exact Nat.le_trans (nodup_lt hk.nt hk.lt) h.t
  · show (startQ s).1.length ≤ _
    rw [startQ, mapS_len]
    exact h.b
  · have h1 : x.frames.map (fun f => f.slots.length) ∈ (startQ s).1.map (fun b => b.frames.map (fun f => f.slots.length)) := List.mem_map.2 ⟨x, hx, rfl⟩
    rw [hm] at h1
    obtain ⟨y, hy, e⟩ := List.mem_map.1 h1
    obtain ⟨h2, h3⟩ := h.bf y hy
    have e1 := congrArg List.length e
    rw [List.length_map, List.length_map] at e1
    refine ⟨by omega, fun f hf => ?_⟩
    have h4 : f.slots.length ∈ x.frames.map (fun f => f.slots.length) := List.mem_map.2 ⟨f, hf, rfl⟩
    rw [← e] at h4
    obtain ⟨f2, hf2, e2⟩ := List.mem_map.1 h4
    have := h3 f2 hf2
    omega
  · have h1 := congrArg (fun l : List (List Nat) => (l.map List.length).sum) hm
    simp only [List.map_map] at h1
    show (rowsB (startQ s).1).length = _
    simp only [rowsB, List.length_flatMap, List.length_map]
    simpa [Function.comp_def] using h1
end Go.Proofs.Ytdoghjmanogelaa.K

namespace Go.Proofs.Ytdoghjmanogelaa.K
open Go.RowKit Go.Proofs.YtdoghjmanogelaaW.PrintWords Go.Proofs.YtdoghjmanogelaaW.PrintLast Go.Proofs.YtdoghjmanogelaaW.PrintMore
set_option linter.unusedVariables false
set_option linter.unusedSimpArgs false
set_option maxRecDepth 100000
def Ap (l : List SV) : Prop := l.Pairwise apart
def Rng (lo hi : Nat) (l : List SV) : Prop := ∀ p ∈ l, ∀ b, (slv p).ownBlock = some b → lo ≤ b ∧ b < hi
section
variable {l m : List SV} {a b c d : Nat}
theorem Ap.disj (h : Ap l) : Disj l := by
  intro j k p q b hp hq hjk hb hb2
  obtain ⟨hj, e1⟩ := List.getElem?_eq_some_iff.1 hp
  obtain ⟨hk, e2⟩ := List.getElem?_eq_some_iff.1 hq
  subst e1 e2
  rcases Nat.lt_or_gt_of_ne hjk with h1 | h1
  · exact List.pairwise_iff_getElem.1 h j k hj hk h1 b hb hb2
  · exact List.pairwise_iff_getElem.1 h k j hk hj h1 b hb2 hb
theorem Ap.app (h1 : Ap l) (h2 : Ap m) (r1 : Rng a b l) (r2 : Rng c d m) (hbc : b ≤ c) : Ap (l ++ m) := List.pairwise_append.2 ⟨h1, h2, fun x hx y hy k h3 h4 => by
  have := (r1 x hx k h3).2
  have := (r2 y hy k h4).1
  omega⟩
theorem Rng.app (r1 : Rng a b l) (r2 : Rng c d m) (hac : a ≤ c) (hbd : b ≤ d) : Rng a d (l ++ m) := fun p hp k hk => (List.mem_append.1 hp).elim (fun h => by have := r1 p h k hk; omega) (fun h => by have := r2 p h k hk; omega)
theorem Ap.perm (h : Ap l) (hp : l.Perm m) : Ap m := (hp.pairwise_iff (fun h k h1 h2 => h k h2 h1)).1 h
theorem Ap.one (x : SV) : Ap [x] := List.pairwise_singleton _ _
theorem disj_nil {γ : Type} {ys : List γ} {f : γ → SV} (h : ∀ y ∈ ys, f y = (none, 0, 0)) : Disj (ys.map f) := fun j k p q b hp hq hjk hb => by
  rw [List.getElem?_map] at hp
  obtain ⟨y, hy, rfl⟩ := Option.map_eq_some_iff.1 hp
  rw [h y (List.mem_of_getElem? hy)] at hb
  cases hb
end
structure Ans where
  v1 : SV
  v2 : SV
  v3 : SV
  ros : List RO
  zs : List (SV × List RF)
  cu : Int
  st : Int
  sp : Int
  rd : Int
structure RawS (W : World) (lo hi : Nat) (x : Ans) : Prop where
  t : x.v1.2.1 ≤ 1048576 ∧ ∃ xs, RowG Kd.string 9 W x.v1 xs
  o : x.v2.2.1 ≤ 1048576 ∧ RowG kRO 59 W x.v2 x.ros
  b : x.v3.2.1 ≤ 1048576 ∧ RowG kRB 51 W x.v3 (x.zs.map (fun z => ⟨z.1⟩))
  i : ∀ r ∈ x.ros, (r.items.2.1 ≤ 1048576 ∧ ∃ xs, RowG kQV 56 W r.items xs) ∧ (r.keys.2.1 ≤ 1048576 ∧ ∃ xs, RowG (Kd.int .i64) 2 W r.keys xs)
  f : ∀ z ∈ x.zs, z.1.2.1 ≤ 1048576 ∧ RowG kRF 54 W z.1 z.2
  s : ∀ p ∈ slotsV x.zs, p.2.1 ≤ 1048576 ∧ ∃ xs, RowG kQV 56 W p xs
  sl : (slotsV x.zs).length ≤ 1048576
  va : Ap (slotsV x.zs ++ x.ros.map (·.items))
  vr : Rng lo hi (slotsV x.zs ++ x.ros.map (·.items))
  ka : Ap (x.ros.map (·.keys))
  kr : Rng lo hi (x.ros.map (·.keys))
  fa : Ap (x.zs.map (·.1))
  fr : Rng lo hi (x.zs.map (·.1))
  hr : Rng lo hi [x.v1, x.v2, x.v3]
theorem RawS.chg {W W' : World} {lo hi : Nat} {x : Ans} {S : Nat → Prop} (h : RawS W lo hi x) (hc : Chg S W W') (hS : ∀ b, S b → ¬ (lo ≤ b ∧ b < hi)) : RawS W' lo hi x := by
  have k : ∀ {p : SV}, (∀ b, (slv p).ownBlock = some b → lo ≤ b ∧ b < hi) → ∀ b, (slv p).ownBlock = some b → ¬ S b := fun hp b hb hs => hS b hs (hp b hb)
  have hv : ∀ p ∈ slotsV x.zs ++ x.ros.map (·.items), ∀ b, (slv p).ownBlock = some b → ¬ S b := fun p hp => k (h.vr p hp)
  refine ⟨⟨h.t.1, ?_⟩, ⟨h.o.1, h.o.2.chg hc (k (h.hr _ (by simp)))⟩, ⟨h.b.1, h.b.2.chg hc (k (h.hr _ (by simp)))⟩, fun r hr => ?_, fun z hz => ⟨(h.f z hz).1, (h.f z hz).2.chg hc (k (h.fr _ (List.mem_map.2 ⟨z, hz, rfl⟩)))⟩, fun p hp => ?_, h.sl, h.va, h.vr, h.ka, h.kr, h.fa, h.fr, h.hr⟩
  · obtain ⟨xs, h1⟩ := h.t.2
    exact ⟨xs, h1.chg hc (k (h.hr _ (by simp)))⟩
  · obtain ⟨⟨h1, xs, h2⟩, h3, ys, h4⟩ := h.i r hr
    exact ⟨⟨h1, xs, h2.chg hc (hv _ (List.mem_append.2 (.inr (List.mem_map.2 ⟨r, hr, rfl⟩))))⟩, h3, ys, h4.chg hc (k (h.kr _ (List.mem_map.2 ⟨r, hr, rfl⟩)))⟩
  · obtain ⟨h1, xs, h2⟩ := h.s p hp
    exact ⟨h1, xs, h2.chg hc (hv _ (List.mem_append.2 (.inl hp)))⟩
theorem slotsV_of (Z : List (RB × List RF)) : slotsV (Z.map (fun z => (z.1.frames, z.2))) = slotsZ Z := by
  simp [slotsV, slotsZ, List.flatMap, Function.comp_def]
theorem SOwn.raw {W : World} {lo : Nat} {v1 v2 v3 : SV} {s : QS} {ros : List RO} {Z : List (RB × List RF)} (h : SOwn W lo v1 v2 v3 s ros Z) (hs : SSmall s) (hf : (rowsB s.fibers).length ≤ 1048576) (hp : (slotsZ Z ++ ros.map (·.items)).Pairwise apart) (hk : (ros.map (·.keys)).Pairwise apart) (cu st sp rd : Int) :
    RawS W lo W.heap.size ⟨v1, v2, v3, ros, Z.map (fun z => (z.1.frames, z.2)), cu, st, sp, rd⟩ := by
  have hrg : ∀ {α : Type} {d : Kd α} {e : TypeId} {p : SV} {xs : List α}, Ow d e W lo p xs → ∀ b, (slv p).ownBlock = some b → lo ≤ b ∧ b < W.heap.size := fun ho b hb => ⟨ho.2 b hb, Kd.R_lt ho.1 b hb⟩
  have hot := h.oc.1
  have hbt := h.bc.1
  have hro : ∀ r ∈ ros, ∃ x ∈ s.objs, Ow kQV 56 W lo r.items x.items ∧ Ow (Kd.int .i64) 2 W lo r.keys x.keys := fun r hr => by
    obtain ⟨j, hj⟩ := List.mem_iff_getElem?.1 hr
    have hx : s.objs[j]? = some (s.objs[j]'(by have := (List.getElem?_eq_some_iff.1 hj).1; omega)) := List.getElem?_eq_getElem _
    obtain ⟨_, _, _, _, h5, h6⟩ := h.oc.2 j r _ hj hx
    exact ⟨_, List.mem_of_getElem? hx, h5, h6⟩
  have hzo : ∀ z ∈ Z, ∃ x ∈ s.fibers, Ow kRF 54 W lo z.1.frames z.2 ∧ FC W lo z.2 x.frames := fun z hz => by
    obtain ⟨j, hj⟩ := List.mem_iff_getElem?.1 hz
    have hx : s.fibers[j]? = some (s.fibers[j]'(by have := (List.getElem?_eq_some_iff.1 hj).1; omega)) := List.getElem?_eq_getElem _
    obtain ⟨h5, h6⟩ := h.bc.2 j z _ hj hx
    exact ⟨_, List.mem_of_getElem? hx, h5, h6⟩
  have hso : ∀ p ∈ slotsZ Z, ∃ xs : List QV, Ow kQV 56 W lo p xs ∧ xs.length ≤ 1048576 := fun p hp => by
    obtain ⟨z, hz, hp⟩ := List.mem_flatMap.1 hp
    obtain ⟨f, hf, rfl⟩ := List.mem_map.1 hp
    obtain ⟨x, hx, _, h6, h7⟩ := hzo z hz
    obtain ⟨j, hj⟩ := List.mem_iff_getElem?.1 hf
    have hy : x.frames[j]? = some (x.frames[j]'(by have := (List.getElem?_eq_some_iff.1 hj).1; omega)) := List.getElem?_eq_getElem _
    exact ⟨_, (h7 j f _ hj hy).2.2, (hs.bf x hx).2 _ (List.mem_of_getElem? hy)⟩
  have hlen : ∀ {α : Type} {d : Kd α} {e : TypeId} {p : SV} {xs : List α}, Ow d e W lo p xs → p.2.1 = xs.length := fun ho => RowG.len ho.1
  refine ⟨⟨?_, _, h.t.1⟩, ⟨?_, h.o.1⟩, ⟨?_, ?_⟩, fun r hr => ?_, fun z hz => ?_, fun p hp => ?_, ?_, ?_, fun p hp => ?_, hk, fun p hp => ?_, ?_, fun p hp => ?_, fun p hp => ?_⟩
  · have := hlen h.t; have := hs.t; simp only; omega
  · have := hlen h.o; have := hs.o; simp only; omega
  · have := hlen h.b; rw [List.length_map] at this; have := hs.b; simp only; omega
  · have e : (Z.map (fun z => (z.1.frames, z.2))).map (fun z => (⟨z.1⟩ : RB)) = Z.map (·.1) := by rw [List.map_map]; rfl
    simp only
    rw [e]
    exact h.b.1
  · obtain ⟨x, hx, h5, h6⟩ := hro r hr
    have := hs.oi x hx
    exact ⟨⟨by rw [hlen h5]; exact this.1, _, h5.1⟩, by rw [hlen h6]; exact this.2, _, h6.1⟩
  · obtain ⟨y, hy, rfl⟩ := List.mem_map.1 hz
    obtain ⟨x, hx, h5, h6⟩ := hzo y hy
    have := (hs.bf x hx).1
    exact ⟨by have h7 := hlen h5; have h8 := h6.1; simp only; omega, h5.1⟩
  · simp only [slotsV_of] at hp
    obtain ⟨xs, h5, h6⟩ := hso p hp
    exact ⟨by rw [hlen h5]; exact h6, xs, h5.1⟩
  · simp only [slotsV_of]
    have e : Z.map (fun z => z.2.length) = s.fibers.map (fun x => x.frames.length) := by
      apply List.ext_getElem?
      intro j
      rw [List.getElem?_map, List.getElem?_map]
      cases hz : Z[j]? with
      | none => rw [List.getElem?_eq_none (by have := List.getElem?_eq_none_iff.1 hz; omega)]; rfl
      | some z =>
        have hx : s.fibers[j]? = some (s.fibers[j]'(by have := (List.getElem?_eq_some_iff.1 hz).1; omega)) := List.getElem?_eq_getElem _
        rw [hx]
        exact congrArg some (h.bc.2 j z _ hz hx).2.1
    have e2 : (slotsZ Z).length = (rowsB s.fibers).length := by
      simp only [slotsZ, rowsB, List.length_flatMap, List.length_map]
      rw [e]
    omega
  · simp only [slotsV_of]
    exact hp
  · simp only [slotsV_of] at hp
    rcases List.mem_append.1 hp with hp | hp
    · obtain ⟨xs, h5, _⟩ := hso p hp
      exact hrg h5
    · obtain ⟨r, hr, rfl⟩ := List.mem_map.1 hp
      obtain ⟨x, hx, h5, h6⟩ := hro r hr
      exact hrg h5
  · obtain ⟨r, hr, rfl⟩ := List.mem_map.1 hp
    obtain ⟨x, hx, h5, h6⟩ := hro r hr
    exact hrg h6
  · simp only [List.map_map]
    refine List.pairwise_iff_getElem.2 fun i j hi hj hij b h1 h2 => ?_
    simp only [List.getElem_map, Function.comp_apply] at h1 h2
    exact h.ba i j _ _ b hij (List.getElem?_eq_getElem _) (List.getElem?_eq_getElem _) h1 h2
  · simp only [List.map_map] at hp
    obtain ⟨z, hz, rfl⟩ := List.mem_map.1 hp
    obtain ⟨x, hx, h5, h6⟩ := hzo z hz
    exact hrg h5
  · simp only [List.mem_cons, List.not_mem_nil, or_false] at hp
    rcases hp with rfl | rfl | rfl
    · exact hrg h.t
    · exact hrg h.o
    · exact hrg h.b
theorem pick_list {α β : Type} : ∀ (zs : List α) (P : Nat → α → β → Prop), (∀ k z, zs[k]? = some z → ∃ y, P k z y) → ∃ ys : List β, ys.length = zs.length ∧ ∀ k z y, zs[k]? = some z → ys[k]? = some y → P k z y
  | [], P, _ => ⟨[], rfl, fun k z y h => by cases h⟩
  | a :: zs, P, h => by
    obtain ⟨y, hy⟩ := h 0 a rfl
    obtain ⟨ys, h1, h2⟩ := pick_list zs (fun k => P (k + 1)) (fun k z hz => h (k + 1) z hz)
    refine ⟨y :: ys, by simp [h1], fun k z y' hz hy' => ?_⟩
    cases k with
    | zero => cases hz; cases hy'; exact hy
    | succ k => exact h2 k z y' hz hy'
theorem map_ext {α β γ : Type} {xs : List α} {ys : List β} {f : α → γ} {g : β → γ} (hl : xs.length = ys.length) (h : ∀ (k : Nat) (x : α) (y : β), xs[k]? = some x → ys[k]? = some y → f x = g y) : xs.map f = ys.map g := by
  apply List.ext_getElem?
  intro j
  rw [List.getElem?_map, List.getElem?_map]
  cases hx : xs[j]? with
  | none => rw [List.getElem?_eq_none (by have := List.getElem?_eq_none_iff.1 hx; omega)]; rfl
  | some x =>
    have hy : ys[j]? = some (ys[j]'(by have := (List.getElem?_eq_some_iff.1 hx).1; omega)) := List.getElem?_eq_getElem _
    rw [hy]
    exact congrArg some (h j x _ hx hy)
theorem RawS.spoilt {W W' : World} {lo hi : Nat} {x : Ans} {e : Ending} (h : RawS W lo hi x) (hp : SpoilPost W x.v2 x.v3 x.ros x.zs e W') : ∃ (ros' : List RO) (zs' : List (SV × List RF)), RawS W' lo hi ⟨x.v1, x.v2, x.v3, ros', zs', x.cu, x.st, x.sp, x.rd⟩ := by
  obtain ⟨_, ⟨ros', h1, h2⟩, ⟨rbs', h3, h4⟩, h5, hc⟩ := hp
  have hol : ros'.length = x.ros.length := by rw [← h1.len, h.o.2.len]
  have hbl : rbs'.length = x.zs.length := by rw [← h3.len, h.b.2.len, List.length_map]
  obtain ⟨fss, h6, h7⟩ := pick_list x.zs (fun k z fs => RowG kRF 54 W' z.1 fs ∧ fs.map (·.slots) = z.2.map (·.slots)) (fun k z hz => by
    obtain ⟨fs, h8, h9⟩ := h5 k z hz
    have hl := (h.f z (List.mem_of_getElem? hz)).2.len
    have hl2 := h8.len
    exact ⟨fs, h8, map_ext (by omega) (fun i f f0 hf hf0 => h9 i f (by have := (List.getElem?_eq_some_iff.1 hf).1; omega) hf z f0 hz hf0)⟩)
  obtain ⟨zs', hzs⟩ : ∃ zs', zs' = List.zipWith (fun z fs => (z.1, fs)) x.zs fss := ⟨_, rfl⟩
  have hzl : zs'.length = x.zs.length := by rw [hzs, List.length_zipWith, h6]; omega
  have hzz : ∀ (k : Nat) (z' : SV × List RF), zs'[k]? = some z' → ∃ z, x.zs[k]? = some z ∧ z'.1 = z.1 ∧ RowG kRF 54 W' z.1 z'.2 ∧ z'.2.map (·.slots) = z.2.map (·.slots) := fun k z' hz' => by
    have hk := (List.getElem?_eq_some_iff.1 hz').1
    have hz : x.zs[k]? = some (x.zs[k]'(by omega)) := List.getElem?_eq_getElem _
    have hf : fss[k]? = some (fss[k]'(by omega)) := List.getElem?_eq_getElem _
    rw [hzs, List.getElem?_zipWith, hz, hf] at hz'
    simp only [Option.some.injEq] at hz'
    subst hz'
    obtain ⟨h8, h9⟩ := h7 k _ _ hz hf
    exact ⟨_, hz, rfl, h8, h9⟩
  have em : zs'.map (·.1) = x.zs.map (·.1) := map_ext hzl (fun k z' z hz' hz => by
    obtain ⟨z0, h8, h9, _⟩ := hzz k z' hz'
    rw [hz] at h8
    injection h8 with h8
    rw [h9, h8])
  have es : slotsV zs' = slotsV x.zs := congrArg List.flatten (map_ext hzl (fun k z' z hz' hz => by
    obtain ⟨z0, h8, _, _, h9⟩ := hzz k z' hz'
    rw [hz] at h8
    injection h8 with h8
    rw [h9, h8]))
  have ero : ∀ (k : Nat) (r r0 : RO), ros'[k]? = some r → x.ros[k]? = some r0 → r.items = r0.items ∧ r.keys = r0.keys := fun k r r0 hr hr0 => h2 k r (by rw [h1.len]; exact (List.getElem?_eq_some_iff.1 hr).1) hr r0 hr0
  have ei : ros'.map (·.items) = x.ros.map (·.items) := map_ext hol (fun k r r0 hr hr0 => (ero k r r0 hr hr0).1)
  have ek : ros'.map (·.keys) = x.ros.map (·.keys) := map_ext hol (fun k r r0 hr hr0 => (ero k r r0 hr hr0).2)
  have hT : ∀ b, SpoilS x.v2 x.v3 x.zs b → ∃ t ∈ [59, 51, 54], ∃ cs, W.heap[b]? = some (.cells cs t (0, 0)) := fun b hb => by
    rcases hb with hb | hb | ⟨k, p, hp, hb⟩
    · exact ⟨_, by simp, Kd.R_typed h.o.2 b hb⟩
    · exact ⟨_, by simp, Kd.R_typed h.b.2 b hb⟩
    · rw [List.getElem?_map] at hp
      obtain ⟨z, hz, rfl⟩ := Option.map_eq_some_iff.1 hp
      exact ⟨_, by simp, Kd.R_typed (h.f z (List.mem_of_getElem? hz)).2 b hb⟩
  have keep : ∀ {α : Type} {d : Kd α} {t : TypeId} {p : SV} {xs : List α}, RowG d t W p xs → t ∉ [59, 51, 54] → RowG d t W' p xs := fun hr ht => hr.chg hc (fun b hb hs => by
    obtain ⟨t', h8, h9⟩ := hT b hs
    exact typ_ne (Kd.R_typed hr b hb) h9 (fun e => ht (e ▸ h8)))
  refine ⟨ros', zs', ⟨h.t.1, ?_⟩, ⟨h.o.1, h1⟩, ⟨h.b.1, ?_⟩, fun r hr => ?_, fun z hz => ?_, fun p hp => ?_, ?_, ?_, ?_, ?_, ?_, ?_, ?_, h.hr⟩
  · obtain ⟨xs, h8⟩ := h.t.2
    exact ⟨xs, keep h8 (by decide)⟩
  · have e : rbs' = zs'.map (fun z => (⟨z.1⟩ : RB)) := by
      have h8 := map_ext (f := id) (g := fun z : SV × List RF => (⟨z.1⟩ : RB)) (hbl.trans hzl.symm) (fun k r z' hr hz' => by
        obtain ⟨z0, h8, h9, _⟩ := hzz k z' hz'
        rw [h9]
        exact h4 k r (by rw [h3.len]; exact (List.getElem?_eq_some_iff.1 hr).1) hr ⟨z0.1⟩ (by rw [List.getElem?_map, h8]; rfl))
      rwa [List.map_id] at h8
    rw [← e]
    exact h3
  · obtain ⟨j, hj⟩ := List.mem_iff_getElem?.1 hr
    have hj' : j < ros'.length := (List.getElem?_eq_some_iff.1 hj).1
    have hx : x.ros[j]? = some (x.ros[j]'(by omega)) := List.getElem?_eq_getElem _
    obtain ⟨e1, e2⟩ := ero j r _ hj hx
    obtain ⟨⟨h8, xs, h9⟩, h10, ys, h11⟩ := h.i _ (List.mem_of_getElem? hx)
    rw [e1, e2]
    exact ⟨⟨h8, xs, keep h9 (by decide)⟩, h10, ys, keep h11 (by decide)⟩
  · obtain ⟨j, hj⟩ := List.mem_iff_getElem?.1 hz
    obtain ⟨z0, h8, h9, h10, _⟩ := hzz j z hj
    rw [h9]
    exact ⟨(h.f z0 (List.mem_of_getElem? h8)).1, h10⟩
  · simp only [es] at hp
    obtain ⟨h8, xs, h9⟩ := h.s p hp
    exact ⟨h8, xs, keep h9 (by decide)⟩
  · simp only [es]; exact h.sl
  · simp only [es, ei]; exact h.va
  · simp only [es, ei]; exact h.vr
  · simp only [ek]; exact h.ka
  · simp only [ek]; exact h.kr
  · simp only [em]; exact h.fa
  · simp only [em]; exact h.fr
def rosA (st : List Ans) : List RO := (st.map (·.ros)).flatten
def zsA (st : List Ans) : List (SV × List RF) := (st.map (·.zs)).flatten
structure Pack (W : World) (lo : Nat) (st : List Ans) : Prop where
  x : ∀ x ∈ st, ∃ l h, lo ≤ l ∧ RawS W l h x
  ta : Ap (st.map (·.v1))
  oa : Ap (st.map (·.v2))
  ba : Ap (st.map (·.v3))
  va : Ap (slotsV (zsA st) ++ (rosA st).map (·.items))
  ka : Ap ((rosA st).map (·.keys))
  fa : Ap ((zsA st).map (·.1))
theorem Rng.of {lo hi : Nat} {p : SV} {l : List SV} (h : Rng lo hi l) (hp : p ∈ l) : Rng lo hi [p] := fun q hq => by
  rw [List.mem_singleton.1 hq]
  exact h p hp
theorem pack3 {W : World} {l1 h1 l2 h2 l3 h3 : Nat} {a b c : Ans} (ha : RawS W l1 h1 a) (hb : RawS W l2 h2 b) (hc : RawS W l3 h3 c) (h11 : l1 ≤ h1) (h12 : h1 ≤ l2) (h22 : l2 ≤ h2) (h23 : h2 ≤ l3) (h33 : l3 ≤ h3) : Pack W l1 [a, b, c] := by
  have three : ∀ {f : Ans → List SV}, (∀ x ∈ [a, b, c], Ap (f x)) → Rng l1 h1 (f a) → Rng l2 h2 (f b) → Rng l3 h3 (f c) → Ap (f a ++ (f b ++ f c)) := fun h r1 r2 r3 =>
    Ap.app (h _ (by simp)) (Ap.app (h _ (by simp)) (h _ (by simp)) r2 r3 h23) r1 (Rng.app r2 r3 (by omega) (by omega)) h12
  have hm : ∀ {P : Ans → Prop}, P a → P b → P c → ∀ x ∈ [a, b, c], P x := fun p1 p2 p3 x hx => by
    simp only [List.mem_cons, List.not_mem_nil, or_false] at hx
    rcases hx with rfl | rfl | rfl
    · exact p1
    · exact p2
    · exact p3
  refine ⟨hm ⟨_, _, Nat.le_refl _, ha⟩ ⟨_, _, (by omega), hb⟩ ⟨_, _, (by omega), hc⟩, ?_, ?_, ?_, ?_, ?_, ?_⟩
  · exact three (f := fun x => [x.v1]) (fun x _ => Ap.one _) (ha.hr.of (by simp)) (hb.hr.of (by simp)) (hc.hr.of (by simp))
  · exact three (f := fun x => [x.v2]) (fun x _ => Ap.one _) (ha.hr.of (by simp)) (hb.hr.of (by simp)) (hc.hr.of (by simp))
  · exact three (f := fun x => [x.v3]) (fun x _ => Ap.one _) (ha.hr.of (by simp)) (hb.hr.of (by simp)) (hc.hr.of (by simp))
  · have h := three (f := fun x => slotsV x.zs ++ x.ros.map (·.items)) (hm ha.va hb.va hc.va) ha.vr hb.vr hc.vr
    have e : slotsV (zsA [a, b, c]) ++ (rosA [a, b, c]).map (·.items) = slotsV a.zs ++ (slotsV b.zs ++ slotsV c.zs) ++ (a.ros.map (·.items) ++ (b.ros.map (·.items) ++ c.ros.map (·.items))) := by
      simp [zsA, rosA, slotsV_app]
    rw [e]
    refine h.perm ?_
    have sw : ∀ (p q r s : List SV), ((p ++ q) ++ (r ++ s)).Perm ((p ++ r) ++ (q ++ s)) := fun p q r s => by
      rw [List.append_assoc, List.append_assoc]
      refine List.Perm.append_left p ?_
      rw [← List.append_assoc, ← List.append_assoc]
      exact List.Perm.append_right s List.perm_append_comm
    exact (List.Perm.append_left _ (sw _ _ _ _)).trans (sw _ _ _ _)
  · have h := three (f := fun x => x.ros.map (·.keys)) (hm ha.ka hb.ka hc.ka) ha.kr hb.kr hc.kr
    simpa [rosA] using h
  · have h := three (f := fun x => x.zs.map (·.1)) (hm ha.fa hb.fa hc.fa) ha.fr hb.fr hc.fr
    simpa [zsA] using h
structure Six (N : Nat) (W : World) (gt go gs gf gb gr : SV) (xt : List SV) (xo : List RO) (xs xf xb xr : List SV) : Prop where
  t : Lst kSl 36 N W gt xt
  o : Lst kRO 59 N W go xo
  s : Lst kSl 52 N W gs xs
  f : Lst kSl 49 N W gf xf
  b : Lst kSl 38 N W gb xb
  r : Lst kSl 37 N W gr xr
theorem Six.setT {N : Nat} {W w1 : World} {gt go gs gf gb gr g' : SV} {xt : List SV} {xo : List RO} {xs xf xb xr : List SV} {x' : List SV} (h : Six N W gt go gs gf gb gr xt xo xs xf xb xr) (h1 : Lst kSl 36 N w1 g' x') (hc : Chg (fun b => (slv gt).ownBlock = some b) W w1) : Six N w1 g' go gs gf gb gr x' xo xs xf xb xr := ⟨h1, h.o.beside h.t hc (by decide), h.s.beside h.t hc (by decide), h.f.beside h.t hc (by decide), h.b.beside h.t hc (by decide), h.r.beside h.t hc (by decide)⟩
theorem Six.setO {N : Nat} {W w1 : World} {gt go gs gf gb gr g' : SV} {xt : List SV} {xo : List RO} {xs xf xb xr : List SV} {x' : List RO} (h : Six N W gt go gs gf gb gr xt xo xs xf xb xr) (h1 : Lst kRO 59 N w1 g' x') (hc : Chg (fun b => (slv go).ownBlock = some b) W w1) : Six N w1 gt g' gs gf gb gr xt x' xs xf xb xr := ⟨h.t.beside h.o hc (by decide), h1, h.s.beside h.o hc (by decide), h.f.beside h.o hc (by decide), h.b.beside h.o hc (by decide), h.r.beside h.o hc (by decide)⟩
theorem Six.setS {N : Nat} {W w1 : World} {gt go gs gf gb gr g' : SV} {xt : List SV} {xo : List RO} {xs xf xb xr : List SV} {x' : List SV} (h : Six N W gt go gs gf gb gr xt xo xs xf xb xr) (h1 : Lst kSl 52 N w1 g' x') (hc : Chg (fun b => (slv gs).ownBlock = some b) W w1) : Six N w1 gt go g' gf gb gr xt xo x' xf xb xr := ⟨h.t.beside h.s hc (by decide), h.o.beside h.s hc (by decide), h1, h.f.beside h.s hc (by decide), h.b.beside h.s hc (by decide), h.r.beside h.s hc (by decide)⟩
theorem Six.setF {N : Nat} {W w1 : World} {gt go gs gf gb gr g' : SV} {xt : List SV} {xo : List RO} {xs xf xb xr : List SV} {x' : List SV} (h : Six N W gt go gs gf gb gr xt xo xs xf xb xr) (h1 : Lst kSl 49 N w1 g' x') (hc : Chg (fun b => (slv gf).ownBlock = some b) W w1) : Six N w1 gt go gs g' gb gr xt xo xs x' xb xr := ⟨h.t.beside h.f hc (by decide), h.o.beside h.f hc (by decide), h.s.beside h.f hc (by decide), h1, h.b.beside h.f hc (by decide), h.r.beside h.f hc (by decide)⟩
theorem Six.setB {N : Nat} {W w1 : World} {gt go gs gf gb gr g' : SV} {xt : List SV} {xo : List RO} {xs xf xb xr : List SV} {x' : List SV} (h : Six N W gt go gs gf gb gr xt xo xs xf xb xr) (h1 : Lst kSl 38 N w1 g' x') (hc : Chg (fun b => (slv gb).ownBlock = some b) W w1) : Six N w1 gt go gs gf g' gr xt xo xs xf x' xr := ⟨h.t.beside h.b hc (by decide), h.o.beside h.b hc (by decide), h.s.beside h.b hc (by decide), h.f.beside h.b hc (by decide), h1, h.r.beside h.b hc (by decide)⟩
theorem Six.setR {N : Nat} {W w1 : World} {gt go gs gf gb gr g' : SV} {xt : List SV} {xo : List RO} {xs xf xb xr : List SV} {x' : List SV} (h : Six N W gt go gs gf gb gr xt xo xs xf xb xr) (h1 : Lst kSl 37 N w1 g' x') (hc : Chg (fun b => (slv gr).ownBlock = some b) W w1) : Six N w1 gt go gs gf gb g' xt xo xs xf xb x' := ⟨h.t.beside h.r hc (by decide), h.o.beside h.r hc (by decide), h.s.beside h.r hc (by decide), h.f.beside h.r hc (by decide), h.b.beside h.r hc (by decide), h1⟩
end Go.Proofs.Ytdoghjmanogelaa.K

namespace Go.Proofs.Ytdoghjmanogelaa.K
open Go.RowKit Go.Proofs.YtdoghjmanogelaaW.PrintWords Go.Proofs.YtdoghjmanogelaaW.PrintLast Go.Proofs.YtdoghjmanogelaaW.PrintMore
set_option linter.unusedVariables false
set_option linter.unusedSimpArgs false
set_option maxRecDepth 100000
def Aft (lo : Nat) (WB w0 wk : World) (ts : List TypeId) : Prop := ∃ S : Nat → Prop, Chg S w0 wk ∧ ∀ b, S b → lo ≤ b ∧ ∃ t ∈ ts, ∃ cs, WB.heap[b]? = some (.cells cs t (0, 0))
section
variable {α : Type} {d : Kd α} {e t : TypeId} {lo : Nat} {WB w0 wk w1 : World} {ts ts' : List TypeId} {S : Nat → Prop} {p gv : SV} {xs : List α} {l : List SV}
theorem Aft.refl : Aft lo WB w0 w0 [] := ⟨fun _ => False, Chg.refl _ _, fun _ h => h.elim⟩
theorem Aft.step (h : Aft lo WB w0 wk ts) (hc : Chg S wk w1) (hS : ∀ b, S b → lo ≤ b ∧ ∃ t ∈ ts', ∃ cs, WB.heap[b]? = some (.cells cs t (0, 0))) : Aft lo WB w0 w1 (ts' ++ ts) := by
  obtain ⟨S0, h1, h2⟩ := h
  refine ⟨fun b => S0 b ∨ S b, (h1.mono (fun b _ h => .inl h)).trans hc (fun b _ h => .inr h), fun b hb => ?_⟩
  rcases hb with hb | hb
  · obtain ⟨h3, t, h4, h5⟩ := h2 b hb
    exact ⟨h3, t, List.mem_append.2 (.inr h4), h5⟩
  · obtain ⟨h3, t, h4, h5⟩ := hS b hb
    exact ⟨h3, t, List.mem_append.2 (.inl h4), h5⟩
theorem Aft.row (h : Aft lo WB w0 wk ts) (h0 : Chg (fun _ => False) WB w0) (hr : RowG d e WB p xs) (he : e ∉ ts) : RowG d e wk p xs := by
  obtain ⟨S0, h1, h2⟩ := h
  exact (hr.chg h0 (fun _ _ h => h)).chg h1 (fun b hb hs => by
    obtain ⟨_, t, h4, h5⟩ := h2 b hs
    exact typ_ne (Kd.R_typed hr b hb) h5 (fun e => he (e ▸ h4)))
theorem Aft.lst (h : Aft lo WB w0 wk ts) (hl : Lst d t WB.heap.size w0 gv xs) : Lst d t WB.heap.size wk gv xs := by
  obtain ⟨S0, h1, h2⟩ := h
  refine hl.chg h1 (fun b hb hs => ?_)
  obtain ⟨_, t, _, cs, h5⟩ := h2 b hs
  have h6 : b < WB.heap.size := (Array.getElem?_eq_some_iff.1 h5).1
  have := hl.new b hb
  omega
def RowsOk (d : Kd α) (e : TypeId) (W : World) (lo : Nat) (l : List SV) : Prop := ∀ p ∈ l, (p.2.1 ≤ 1048576 ∧ ∃ xs, RowG d e W p xs) ∧ ∀ b, (slv p).ownBlock = some b → lo ≤ b
theorem RowsOk.at (h : RowsOk d e WB lo l) (A : Aft lo WB w0 wk ts) (h0 : Chg (fun _ => False) WB w0) (he : e ∉ ts) : ∀ (k : Nat) (p : SV), l[k]? = some p → p.2.1 ≤ 1048576 ∧ ∃ xs, RowG d e wk p xs := fun k p hp => by
  obtain ⟨⟨h1, xs, h2⟩, _⟩ := h p (List.mem_of_getElem? hp)
  exact ⟨h1, xs, A.row h0 h2 he⟩
theorem RowsOk.own (h : RowsOk d e WB lo l) : ∀ b, OwnS l b → lo ≤ b ∧ ∃ t ∈ [e], ∃ cs, WB.heap[b]? = some (.cells cs t (0, 0)) := fun b ⟨k, p, hp, hb⟩ => by
  obtain ⟨⟨_, xs, h2⟩, h3⟩ := h p (List.mem_of_getElem? hp)
  exact ⟨h3 b hb, e, by simp, Kd.R_typed h2 b hb⟩
theorem flat_len {γ δ : Type} {st : List γ} {f : γ → List δ} {m : Nat} (h : ∀ x ∈ st, (f x).length ≤ m) : (st.map f).flatten.length ≤ st.length * m := by
  induction st with
  | nil => simp
  | cons x st ih =>
    have h1 := ih (fun y hy => h y (List.mem_cons_of_mem _ hy))
    have h2 := h x (List.mem_cons_self ..)
    rw [List.map_cons, List.flatten_cons, List.length_append, List.length_cons, Nat.succ_mul]
    omega
theorem slotsV_zsA (st : List Ans) : slotsV (zsA st) = (st.map (fun x => slotsV x.zs)).flatten := by
  induction st with
  | nil => rfl
  | cons x st ih => rw [List.map_cons, List.flatten_cons, ← ih, ← slotsV_app]; rfl
end
section
variable {W : World} {lo : Nat} {st : List Ans}
theorem Pack.rt (h : Pack W lo st) : RowsOk Kd.string 9 W lo (st.map (·.v1)) := fun p hp => by
  obtain ⟨x, hx, rfl⟩ := List.mem_map.1 hp
  obtain ⟨a, b, hl, hr⟩ := h.x x hx
  exact ⟨hr.t, fun b hb => Nat.le_trans hl (hr.hr _ (by simp) b hb).1⟩
theorem Pack.ro (h : Pack W lo st) : RowsOk kRO 59 W lo (st.map (·.v2)) := fun p hp => by
  obtain ⟨x, hx, rfl⟩ := List.mem_map.1 hp
  obtain ⟨a, b, hl, hr⟩ := h.x x hx
  exact ⟨⟨hr.o.1, _, hr.o.2⟩, fun b hb => Nat.le_trans hl (hr.hr _ (by simp) b hb).1⟩
theorem Pack.rb (h : Pack W lo st) : RowsOk kRB 51 W lo (st.map (·.v3)) := fun p hp => by
  obtain ⟨x, hx, rfl⟩ := List.mem_map.1 hp
  obtain ⟨a, b, hl, hr⟩ := h.x x hx
  exact ⟨⟨hr.b.1, _, hr.b.2⟩, fun b hb => Nat.le_trans hl (hr.hr _ (by simp) b hb).1⟩
theorem Pack.rv (h : Pack W lo st) : RowsOk kQV 56 W lo (slotsV (zsA st) ++ (rosA st).map (·.items)) := fun p hp => by
  rcases List.mem_append.1 hp with hp | hp
  · rw [slotsV_zsA] at hp
    obtain ⟨l, hl, hp⟩ := List.mem_flatten.1 hp
    obtain ⟨x, hx, rfl⟩ := List.mem_map.1 hl
    obtain ⟨a, b, hl, hr⟩ := h.x x hx
    exact ⟨hr.s p hp, fun b hb => Nat.le_trans hl (hr.vr p (List.mem_append.2 (.inl hp)) b hb).1⟩
  · obtain ⟨r, hr0, rfl⟩ := List.mem_map.1 hp
    obtain ⟨l, hl, hr1⟩ := List.mem_flatten.1 hr0
    obtain ⟨x, hx, rfl⟩ := List.mem_map.1 hl
    obtain ⟨a, b, hl, hr⟩ := h.x x hx
    exact ⟨(hr.i r hr1).1, fun b hb => Nat.le_trans hl (hr.vr _ (List.mem_append.2 (.inr (List.mem_map.2 ⟨r, hr1, rfl⟩))) b hb).1⟩
theorem Pack.rk (h : Pack W lo st) : RowsOk (Kd.int .i64) 2 W lo ((rosA st).map (·.keys)) := fun p hp => by
  obtain ⟨r, hr0, rfl⟩ := List.mem_map.1 hp
  obtain ⟨l, hl, hr1⟩ := List.mem_flatten.1 hr0
  obtain ⟨x, hx, rfl⟩ := List.mem_map.1 hl
  obtain ⟨a, b, hl, hr⟩ := h.x x hx
  exact ⟨(hr.i r hr1).2, fun b hb => Nat.le_trans hl (hr.kr _ (List.mem_map.2 ⟨r, hr1, rfl⟩) b hb).1⟩
theorem Pack.rf (h : Pack W lo st) : ∀ z ∈ zsA st, (z.1.2.1 ≤ 1048576 ∧ RowG kRF 54 W z.1 z.2) ∧ ∀ b, (slv z.1).ownBlock = some b → lo ≤ b := fun z hz => by
  obtain ⟨l, hl, hz1⟩ := List.mem_flatten.1 hz
  obtain ⟨x, hx, rfl⟩ := List.mem_map.1 hl
  obtain ⟨a, b, hl, hr⟩ := h.x x hx
  exact ⟨hr.f z hz1, fun b hb => Nat.le_trans hl (hr.fr _ (List.mem_map.2 ⟨z, hz1, rfl⟩) b hb).1⟩
theorem Pack.ls (h : Pack W lo st) : (slotsV (zsA st)).length ≤ st.length * 1048576 := by
  rw [slotsV_zsA]
  exact flat_len (fun x hx => by obtain ⟨a, b, _, hr⟩ := h.x x hx; exact hr.sl)
theorem Pack.lr (h : Pack W lo st) : (rosA st).length ≤ st.length * 1048576 := flat_len (fun x hx => by
  obtain ⟨a, b, _, hr⟩ := h.x x hx
  rw [← hr.o.2.len]
  exact hr.o.1)
theorem Pack.lz (h : Pack W lo st) : (zsA st).length ≤ st.length * 1048576 := flat_len (fun x hx => by
  obtain ⟨a, b, _, hr⟩ := h.x x hx
  have h1 := hr.b.2.len
  rw [List.length_map] at h1
  rw [← h1]
  exact hr.b.1)
end
structure Got (lo : Nat) (WB w0 : World) (st : List Ans) (gt go gs gf gb gr : SV) (os : List RO) : Prop where
  hC : Chg (fun _ => False) WB w0
  six : Six WB.heap.size w0 gt go gs gf gb gr (st.map (·.v1)) os (slotsV (zsA st) ++ (rosA st).map (·.items)) ((zsA st).map (·.1)) (st.map (·.v3)) (st.map (·.v2))
  ol : os.length = (rosA st).length
  oe : ∀ (k : Nat) (r r0 : RO), os[k]? = some r → (rosA st)[k]? = some r0 → r.items = (none, 0, 0) ∧ r.keys = r0.keys
  pk : Pack WB lo st
  len : st.length ≤ 3
theorem Got.texts {lo : Nat} {WB w0 : World} {st : List Ans} {gt go gs gf gb gr : SV} {os : List RO} (h : Got lo WB w0 st gt go gs gf gb gr os) {w' : World} (A : Aft lo WB w0 w' []) :
    Calls Try.prog 26 #[.slice gt.1 gt.2.1 gt.2.2] w' fun e w'' => e = .returned (.bool true) ∧ Aft lo WB w0 w'' [9] := by
  have hl := A.lst h.six.t
  obtain ⟨B, h1, h2⟩ := hdrs hl.row
  have hr := h.pk.rt.at A h.hC (by decide)
  have hn : (st.map (·.v1)).length = gt.2.1 := hl.row.len.symm
  refine (kit_ApartTexts w' gt.1 gt.2.1 gt.2.2 B (st.map (·.v1)) hn (by rw [← hn, List.length_map]; have := h.len; omega) (fun h3 => (h1 (by omega)).1) h2 (hdrs_not h1 hl.row (fun h => h) (fun k p hp => by obtain ⟨_, xs, h4⟩ := hr k p hp; exact Kd.R_typed h4) (by decide)) (fun k p hp => ⟨Nat.le_trans (hr k p hp).1 (by decide), (hr k p hp).2⟩) h.pk.ta.disj).mono ?_
  rintro e w'' ⟨rfl, hc⟩
  exact ⟨rfl, A.step hc h.pk.rt.own⟩
theorem Got.objects {lo : Nat} {WB w0 : World} {st : List Ans} {gt go gs gf gb gr : SV} {os : List RO} (h : Got lo WB w0 st gt go gs gf gb gr os) {w' : World} (A : Aft lo WB w0 w' [9]) :
    Calls Try.prog 27 #[.slice go.1 go.2.1 go.2.2] w' fun e w'' => e = .returned (.bool true) ∧ Aft lo WB w0 w'' [2, 9] := by
  have hl := A.lst h.six.o
  have hol := h.ol
  have hln := h.len
  have hlr := h.pk.lr
  have hn : os.length = go.2.1 := hl.row.len.symm
  have hat : ∀ (j : Nat) (r : RO), os[j]? = some r → ∃ r0, (rosA st)[j]? = some r0 ∧ r.items = (none, 0, 0) ∧ r.keys = r0.keys := fun j r hr => by
    have hx : (rosA st)[j]? = some ((rosA st)[j]'(by have := (List.getElem?_eq_some_iff.1 hr).1; omega)) := List.getElem?_eq_getElem _
    exact ⟨_, hx, h.oe j r _ hr hx⟩
  have ek : os.map (·.keys) = (rosA st).map (·.keys) := map_ext hol (fun k r r0 hr hr0 => (h.oe k r r0 hr hr0).2)
  have hno : ∀ y ∈ os, y.items = (none, 0, 0) := fun y hy => by
    obtain ⟨j, hj⟩ := List.mem_iff_getElem?.1 hy
    obtain ⟨r0, _, h3, _⟩ := hat j y hj
    exact h3
  have hk := h.pk.rk.at A h.hC (by decide)
  refine (kit_ApartObjects w' go.1 go.2.1 go.2.2 os hl.row.toC (by rw [← hn]; omega) (fun j r hr => ?_) (fun j r hr => ?_) (disj_nil hno) (by rw [ek]; exact h.pk.ka.disj)).mono ?_
  · obtain ⟨r0, _, h3, _⟩ := hat j r hr
    rw [h3]
    exact ⟨by decide, [], Kd.R_nil _ _ _ _ _⟩
  · obtain ⟨r0, h3, _, h4⟩ := hat j r hr
    rw [h4]
    have h5 := hk j r0.keys (by rw [List.getElem?_map, h3]; rfl)
    exact ⟨Nat.le_trans h5.1 (by decide), h5.2⟩
  · rintro e w'' ⟨rfl, hc⟩
    refine ⟨rfl, A.step (ts' := [2]) hc (fun b hb => ?_)⟩
    rcases hb with ⟨k, p, hp, hb⟩ | hb
    · rw [List.getElem?_map] at hp
      obtain ⟨y, hy, rfl⟩ := Option.map_eq_some_iff.1 hp
      rw [hno y (List.mem_of_getElem? hy)] at hb
      cases hb
    · rw [ek] at hb
      exact h.pk.rk.own b hb
theorem Got.values {lo : Nat} {WB w0 : World} {st : List Ans} {gt go gs gf gb gr : SV} {os : List RO} (h : Got lo WB w0 st gt go gs gf gb gr os) {w' : World} (A : Aft lo WB w0 w' [2, 9]) :
    Calls Try.prog 28 #[.slice gs.1 gs.2.1 gs.2.2] w' fun e w'' => e = .returned (.bool true) ∧ Aft lo WB w0 w'' [56, 2, 9] ∧ ∀ p ∈ slotsV (zsA st), ∃ xs, RowG kQV 56 w'' p xs := by
  have hl := A.lst h.six.s
  have hln := h.len
  have hlr := h.pk.lr
  have hls := h.pk.ls
  obtain ⟨B, h1, h2⟩ := hdrs hl.row
  have hr := h.pk.rv.at A h.hC (by decide)
  have hn : (slotsV (zsA st) ++ (rosA st).map (·.items)).length = gs.2.1 := hl.row.len.symm
  refine (kit_ApartValues w' gs.1 gs.2.1 gs.2.2 B _ hn (by rw [← hn, List.length_append, List.length_map]; omega) (fun h3 => (h1 (by omega)).1) h2 (hdrs_not h1 hl.row (fun h => h) (fun k p hp => by obtain ⟨_, xs, h4⟩ := hr k p hp; exact Kd.R_typed h4) (by decide)) (fun k p hp => ⟨Nat.le_trans (hr k p hp).1 (by decide), (hr k p hp).2⟩) h.pk.va.disj).mono ?_
  rintro e w'' ⟨rfl, hc, hv⟩
  refine ⟨rfl, A.step hc h.pk.rv.own, fun p hp => ?_⟩
  obtain ⟨j, hj⟩ := List.mem_iff_getElem?.1 hp
  exact ⟨_, hv j p (by rw [List.getElem?_append_left (List.getElem?_eq_some_iff.1 hj).1]; exact hj)⟩
theorem Got.frames {lo : Nat} {WB w0 : World} {st : List Ans} {gt go gs gf gb gr : SV} {os : List RO} (h : Got lo WB w0 st gt go gs gf gb gr os) {w' : World} (A : Aft lo WB w0 w' [56, 2, 9]) (hV : ∀ p ∈ slotsV (zsA st), ∃ xs, RowG kQV 56 w' p xs) :
    Calls Try.prog 29 #[.slice gf.1 gf.2.1 gf.2.2] w' fun e w'' => e = .returned (.bool true) ∧ Aft lo WB w0 w'' [54, 56, 56, 2, 9] := by
  have hl := A.lst h.six.f
  have hln := h.len
  have hls := h.pk.ls
  have hlz := h.pk.lz
  obtain ⟨B, h1, h2⟩ := hdrs hl.row
  have hf : ∀ z ∈ zsA st, RowG kRF 54 w' z.1 z.2 := fun z hz => A.row h.hC (h.pk.rf z hz).1.2 (by decide)
  have hn : (zsA st).length = gf.2.1 := by have := hl.row.len; rw [List.length_map] at this; exact this.symm
  have hsv : ∀ (j : Nat) (p : SV), (slotsV (zsA st))[j]? = some p → p.2.1 ≤ 1048576 := fun j p hp => (h.pk.rv p (List.mem_append.2 (.inl (List.mem_of_getElem? hp)))).1.1
  refine (kit_ApartFrames w' gf.1 gf.2.1 gf.2.2 B (zsA st) hn (by rw [← hn]; omega) (fun h3 => (h1 (by rw [List.length_map]; omega)).1) h2 (hdrs_not h1 hl.row (fun h => h) (fun k p hp => ?_) (show 54 ≠ _ by decide)) (hdrs_not h1 hl.row (fun h => ?_) (fun k p hp => ?_) (show 56 ≠ _ by decide)) (fun k z hz => ⟨Nat.le_trans (h.pk.rf z (List.mem_of_getElem? hz)).1.1 (by decide), hf z (List.mem_of_getElem? hz)⟩) (fun j p hp => ⟨Nat.le_trans (hsv j p hp) (by decide), hV p (List.mem_of_getElem? hp)⟩) h.pk.fa.disj (Ap.disj (List.pairwise_append.1 h.pk.va).1) (by omega)).mono ?_
  · rw [List.getElem?_map] at hp
    obtain ⟨z, hz, rfl⟩ := Option.map_eq_some_iff.1 hp
    exact Kd.R_typed (hf z (List.mem_of_getElem? hz))
  · rw [List.length_map]
    cases hz : zsA st with
    | nil => rw [hz] at h; exact absurd h (by decide)
    | cons a l => simp
  · obtain ⟨xs, h4⟩ := hV p (List.mem_of_getElem? hp)
    exact Kd.R_typed h4
  · rintro e w'' ⟨rfl, hc⟩
    refine ⟨rfl, A.step (ts' := [54, 56]) hc (fun b hb => ?_)⟩
    rcases hb with ⟨k, p, hp, hb⟩ | ⟨k, p, hp, hb⟩
    · rw [List.getElem?_map] at hp
      obtain ⟨z, hz, rfl⟩ := Option.map_eq_some_iff.1 hp
      obtain ⟨⟨_, h4⟩, h5⟩ := h.pk.rf z (List.mem_of_getElem? hz)
      exact ⟨h5 b hb, _, by simp, Kd.R_typed h4 b hb⟩
    · obtain ⟨⟨_, xs, h4⟩, h5⟩ := h.pk.rv p (List.mem_append.2 (.inl (List.mem_of_getElem? hp)))
      exact ⟨h5 b hb, _, by simp, Kd.R_typed h4 b hb⟩
theorem Got.fibers {lo : Nat} {WB w0 : World} {st : List Ans} {gt go gs gf gb gr : SV} {os : List RO} (h : Got lo WB w0 st gt go gs gf gb gr os) {w' : World} (A : Aft lo WB w0 w' [54, 56, 56, 2, 9]) :
    Calls Try.prog 30 #[.slice gb.1 gb.2.1 gb.2.2] w' fun e w'' => e = .returned (.bool true) ∧ Aft lo WB w0 w'' [51, 54, 56, 56, 2, 9] := by
  have hl := A.lst h.six.b
  obtain ⟨B, h1, h2⟩ := hdrs hl.row
  have hr := h.pk.rb.at A h.hC (by decide)
  have hn : (st.map (·.v3)).length = gb.2.1 := hl.row.len.symm
  refine (kit_ApartFibers w' gb.1 gb.2.1 gb.2.2 B (st.map (·.v3)) hn (by rw [← hn, List.length_map]; have := h.len; omega) (fun h3 => (h1 (by omega)).1) h2 (hdrs_not h1 hl.row (fun h => h) (fun k p hp => by obtain ⟨_, xs, h4⟩ := hr k p hp; exact Kd.R_typed h4) (by decide)) (fun k p hp => ⟨Nat.le_trans (hr k p hp).1 (by decide), (hr k p hp).2⟩) h.pk.ba.disj).mono ?_
  rintro e w'' ⟨rfl, hc⟩
  exact ⟨rfl, A.step hc h.pk.rb.own⟩
theorem Got.rows {lo : Nat} {WB w0 : World} {st : List Ans} {gt go gs gf gb gr : SV} {os : List RO} (h : Got lo WB w0 st gt go gs gf gb gr os) {w' : World} (A : Aft lo WB w0 w' [51, 54, 56, 56, 2, 9]) :
    Calls Try.prog 31 #[.slice gr.1 gr.2.1 gr.2.2] w' fun e w'' => e = .returned (.bool true) ∧ Aft lo WB w0 w'' [59, 51, 54, 56, 56, 2, 9] := by
  have hl := A.lst h.six.r
  obtain ⟨B, h1, h2⟩ := hdrs hl.row
  have hr := h.pk.ro.at A h.hC (by decide)
  have hn : (st.map (·.v2)).length = gr.2.1 := hl.row.len.symm
  refine (kit_ApartRows w' gr.1 gr.2.1 gr.2.2 B (st.map (·.v2)) hn (by rw [← hn, List.length_map]; have := h.len; omega) (fun h3 => (h1 (by omega)).1) h2 (hdrs_not h1 hl.row (fun h => h) (fun k p hp => by obtain ⟨_, xs, h4⟩ := hr k p hp; exact Kd.R_typed h4) (by decide)) (fun k p hp => ⟨Nat.le_trans (hr k p hp).1 (by decide), (hr k p hp).2⟩) h.pk.oa.disj).mono ?_
  rintro e w'' ⟨rfl, hc⟩
  exact ⟨rfl, A.step hc h.pk.ro.own⟩
theorem Lst.blk {α : Type} {d : Kd α} {t t2 : TypeId} {N b : Nat} {wr w1 : World} {gv : SV} {xs : List α} {cs : Array Value} (h : Lst d t N wr gv xs) (hc : Chg (fun b => (slv gv).ownBlock = some b) wr w1) (hb : wr.heap[b]? = some (.cells cs t2 (0, 0))) (ht : t ≠ t2) : w1.heap[b]? = some (.cells cs t2 (0, 0)) := hc.blk hb (fun hs => typ_ne (Kd.R_typed h.row b hs) ⟨_, hb⟩ ht)
theorem Six.new {N : Nat} {W w1 : World} {gt go gs gf gb gr : SV} {xt : List SV} {xo : List RO} {xs xf xb xr : List SV} (h : Six N W gt go gs gf gb gr xt xo xs xf xb xr) (hc : Chg (fun _ => False) W w1) : Six N w1 gt go gs gf gb gr xt xo xs xf xb xr := ⟨h.t.chg hc (fun _ _ h => h), h.o.chg hc (fun _ _ h => h), h.s.chg hc (fun _ _ h => h), h.f.chg hc (fun _ _ h => h), h.b.chg hc (fun _ _ h => h), h.r.chg hc (fun _ _ h => h)⟩
theorem six_nil {N : Nat} {W : World} : Six N W (none, 0, 0) (none, 0, 0) (none, 0, 0) (none, 0, 0) (none, 0, 0) (none, 0, 0) [] [] [] [] [] [] := ⟨Lst.nil, Lst.nil, Lst.nil, Lst.nil, Lst.nil, Lst.nil⟩
section
variable {st : List Ans} {j : Nat} {x : Ans}
theorem st_snoc (hx : st[j]? = some x) : st.take (j + 1) = st.take j ++ [x] := by rw [List.take_add_one, hx]; rfl
theorem rosA_app (a b : List Ans) : rosA (a ++ b) = rosA a ++ rosA b := by simp [rosA]
theorem zsA_app (a b : List Ans) : zsA (a ++ b) = zsA a ++ zsA b := by simp [zsA]
theorem rosA_step (hx : st[j]? = some x) : rosA (st.take (j + 1)) = rosA (st.take j) ++ x.ros := by rw [st_snoc hx]; simp [rosA]
theorem zsA_step (hx : st[j]? = some x) : zsA (st.take (j + 1)) = zsA (st.take j) ++ x.zs := by rw [st_snoc hx]; simp [zsA]
theorem Pack.room {W : World} {lo : Nat} (h : Pack W lo st) (hl : st.length = 3) (hx : st[j]? = some x) : (rosA (st.take j)).length + x.ros.length ≤ 3145728 ∧ (zsA (st.take j)).length + x.zs.length ≤ 3145728 ∧ (slotsV (zsA (st.take j))).length + (slotsV x.zs).length ≤ 3145728 := by
  have e1 : rosA st = rosA (st.take (j + 1)) ++ rosA (st.drop (j + 1)) := by rw [← rosA_app, List.take_append_drop]
  have e2 : zsA st = zsA (st.take (j + 1)) ++ zsA (st.drop (j + 1)) := by rw [← zsA_app, List.take_append_drop]
  have h1 := h.lr
  have h2 := h.lz
  have h3 := h.ls
  rw [e1, rosA_step hx, List.length_append, List.length_append] at h1
  rw [e2, slotsV_app, zsA_step hx, slotsV_app, List.length_append, List.length_append] at h3
  rw [e2, zsA_step hx, List.length_append, List.length_append] at h2
  omega
def cellsA (x : Ans) : List Value := [.slice x.v1.1 x.v1.2.1 x.v1.2.2, .slice x.v2.1 x.v2.2.1 x.v2.2.2, .slice x.v3.1 x.v3.2.1 x.v3.2.2, .int .i64 x.cu, .int .i64 x.st, .int .i64 x.sp, .int .i64 x.rd]
theorem lit_at {W : World} {g : Nat} {a b c : Ans} (h : W.heap[g]? = some (.cells (cellsA a ++ cellsA b ++ cellsA c).toArray 40)) (hx : [a, b, c][j]? = some x) : W.cell? ⟨g, j * 7, none⟩ = some (.slice x.v1.1 x.v1.2.1 x.v1.2.2) ∧ W.cell? ⟨g, j * 7 + 1, none⟩ = some (.slice x.v2.1 x.v2.2.1 x.v2.2.2) ∧ W.cell? ⟨g, j * 7 + 2, none⟩ = some (.slice x.v3.1 x.v3.2.1 x.v3.2.2) ∧ W.cell? ⟨g, j * 7 + 3, none⟩ = some (.int .i64 x.cu) ∧ W.cell? ⟨g, j * 7 + 4, none⟩ = some (.int .i64 x.st) ∧ W.cell? ⟨g, j * 7 + 5, none⟩ = some (.int .i64 x.sp) ∧ W.cell? ⟨g, j * 7 + 6, none⟩ = some (.int .i64 x.rd) := by
  rcases j with _ | _ | _ | j
  · cases hx; exact ⟨blk_cell h _, blk_cell h _, blk_cell h _, blk_cell h _, blk_cell h _, blk_cell h _, blk_cell h _⟩
  · cases hx; exact ⟨blk_cell h _, blk_cell h _, blk_cell h _, blk_cell h _, blk_cell h _, blk_cell h _, blk_cell h _⟩
  · cases hx; exact ⟨blk_cell h _, blk_cell h _, blk_cell h _, blk_cell h _, blk_cell h _, blk_cell h _, blk_cell h _⟩
  · exact absurd (List.getElem?_eq_some_iff.1 hx).1 (by simp)
end
def Took (k : Nat) (R os : List RO) : Prop := os.length = R.length ∧ ∀ (i : Nat) (r r0 : RO), os[i]? = some r → R[i]? = some r0 → (if i < k then r.items = (none, 0, 0) else r.items = r0.items) ∧ r.keys = r0.keys
theorem Took.zero (R : List RO) : Took 0 R R := ⟨rfl, fun i r r0 h1 h2 => by
  rw [h1] at h2
  injection h2 with h2
  subst h2
  exact ⟨by rw [if_neg (by omega)], rfl⟩⟩
theorem Took.step {k : Nat} {R os : List RO} {r : RO} (h : Took k R os) (hr : os[k]? = some r) : Took (k + 1) R (os.set k ⟨r.kind, (none, 0, 0), r.keys, r.fn, r.cap, r.shut⟩) := by
  refine ⟨by rw [List.length_set]; exact h.1, fun i q r0 h1 h2 => ?_⟩
  by_cases hik : k = i
  · subst hik
    rw [List.getElem?_set_self (List.getElem?_eq_some_iff.1 hr).1] at h1
    injection h1 with h1
    subst h1
    exact ⟨by rw [if_pos (by omega)], (h.2 k r r0 hr h2).2⟩
  · rw [List.getElem?_set_ne hik] at h1
    obtain ⟨h3, h4⟩ := h.2 i q r0 h1 h2
    refine ⟨?_, h4⟩
    by_cases hlt : i < k
    · rw [if_pos hlt] at h3; rw [if_pos (by omega)]; exact h3
    · rw [if_neg hlt] at h3; rw [if_neg (by omega)]; exact h3
theorem Lst.putNil {N : Nat} {W : World} {g n c k : Nat} {os : List RO} {r : RO} (h : Lst kRO 59 N W (some ⟨g, 0, none⟩, n, c) os) (hr : os[k]? = some r) : Lst kRO 59 N (W.setCell ⟨g, k * 6 + 1, none⟩ (.slice none 0 0)) (some ⟨g, 0, none⟩, n, c) (os.set k ⟨r.kind, (none, 0, 0), r.keys, r.fn, r.cap, r.shut⟩) := by
  obtain ⟨k0, i0, s0, f0, c0, u0⟩ := r
  have p := Ow.put (j := 1) (m := 6) (u := .slice none 0 0) (r' := ⟨k0, (none, 0, 0), s0, f0, c0, u0⟩) kRO_K kRO_M rfl h.row.ow hr rfl (by decide)
  exact ⟨p.1, h.new⟩
end Go.Proofs.Ytdoghjmanogelaa.K
