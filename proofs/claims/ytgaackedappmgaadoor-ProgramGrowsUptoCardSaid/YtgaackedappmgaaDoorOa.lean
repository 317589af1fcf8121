import Derived.Test.YtgaackedappmgaaDoorRows
import Derived.Test.YtgaackedappmgaaDoorWArr
import Derived.Test.YtgaackedappmgaaDoorWMore
import Derived.WalkKit
import Derived.ChangeArms
import Derived.OpenShut
import Derived.ShutString
import Derived.ChangeOld
import Derived.Below
import Derived.SizedLaws
namespace Go.Proofs.YtgaackedappmgaaDoor.K
open Go.RowKit Go.Proofs.YtgaackedappmgaaDoorW.PrintWords Go.Proofs.YtgaackedappmgaaDoorW.PrintLast Go.Proofs.YtgaackedappmgaaDoorW.PrintMore
set_option linter.unusedVariables false
theorem add_add (a : Addr) (m j : Nat) : (a.add m).add j = a.add (m + j) := by
  unfold Addr.add
  by_cases h1 : m = 0 <;> by_cases h2 : j = 0 <;> simp [h1, h2, Nat.add_assoc]
structure Opens (P : Program) {α : Type} (t : TypeId) (d : Kd α) (ok : α → Prop) (bk : α → Nat) : Prop where
  sz : P.cellsOf t = d.sz
  op : ∀ {H : Type} (enc : TypeId × Value → H) (w : World) (base : Nat) (sp : Nat → Bool) (held : Bool) (fuel : Nat) (cs : List Value) (y : DataW H × List MemPlace),
    DataW.trod enc P w base sp held fuel t cs = some y → (∀ n ∈ y.1.weights P t, n ≤ reachBytes) → ∃ x, d.K w x cs ∧ ok x ∧ bk x ≤ Rows.uptoBulk y.1
structure OpensF (P : Program) {β : Type} (fs : List Field) (off : Nat) (d : Kd β) (ok : β → Prop) (bk : β → Nat) : Prop where
  op : ∀ {H : Type} (enc : TypeId × Value → H) (w : World) (base : Nat) (sp : Nat → Bool) (held : Bool) (fuel : Nat) (cs : List Value) (xs : List (DataW H × List MemPlace)), xs.length = fs.length →
    (∀ (i : Nat) (f : Field), fs[i]? = some f → DataW.trod enc P w base sp held fuel f.type ((cs.drop f.offset).take (P.cellsOf f.type)) = xs[i]?) → (∀ n ∈ DataW.weightsEach P (fs.map (·.type)) (xs.map (·.1)), n ≤ reachBytes) →
    ∃ x, d.K w x ((cs.drop off).take d.sz) ∧ ok x ∧ bk x ≤ Rows.uptoBulkAll (xs.map (·.1))
theorem list_choose {α : Type} {p : Nat → α → Prop} : ∀ n : Nat, (∀ i, i < n → ∃ x, p i x) → ∃ xs : List α, xs.length = n ∧ ∀ i x, xs[i]? = some x → p i x
  | 0, _ => ⟨[], rfl, by simp⟩
  | n + 1, h => by
    obtain ⟨xs, hl, hp⟩ := list_choose n (fun i hi => h i (by omega))
    obtain ⟨x, hx⟩ := h n (by omega)
    refine ⟨xs ++ [x], by simp [hl], fun i z hz => ?_⟩
    rcases Nat.lt_or_ge i n with hi | hi
    · exact hp i z (by rw [List.getElem?_append_left (by omega)] at hz; exact hz)
    · rw [List.getElem?_append_right (by omega)] at hz
      have : i - xs.length = 0 := by
        rcases Nat.eq_zero_or_pos (i - xs.length) with h1 | h1
        · exact h1
        · rw [List.getElem?_eq_none (by simp; omega)] at hz; cases hz
      rw [this] at hz
      simp at hz
      subst hz
      have : i = n := by omega
      rw [this]; exact hx
section
variable {P : Program} {α β : Type} {t e : TypeId}
theorem Opens.int {k : IntKind} (ht : P.underlying t = some (.int k)) (hc : P.cellsOf t = 1) : Opens P t (Kd.int k) (fun n => (Lit.int k n).wf = true) (fun _ => 1) :=
  ⟨hc, fun _ _ _ _ _ _ _ _ h _ => by obtain ⟨n, rfl, rfl, hw⟩ := DataW.trod_int ht h; exact ⟨n, rfl, hw, by simp [Rows.uptoBulk]⟩⟩
theorem Opens.bool (ht : P.underlying t = some .bool) (hc : P.cellsOf t = 1) : Opens P t Kd.bool (fun _ => True) (fun _ => 1) :=
  ⟨hc, fun _ _ _ _ _ _ _ _ h _ => by obtain ⟨n, rfl, rfl⟩ := DataW.trod_bool ht h; exact ⟨n, rfl, trivial, by simp [Rows.uptoBulk]⟩⟩
theorem Opens.string (ht : P.underlying t = some .string) (hc : P.cellsOf t = 1) : Opens P t Kd.string (fun s => s.size ≤ 140737488351232) (fun s => s.size + 1) :=
  ⟨hc, fun _ _ _ _ _ _ _ _ h hw => by
    obtain ⟨s, rfl, rfl, _⟩ := DataW.trod_string ht h
    have := hw _ (by simp only [DataW.weights, List.mem_singleton]; rfl)
    rw [Array.length_toList] at this
    exact ⟨s, rfl, this, by simp only [Rows.uptoBulk, Array.length_toList]; exact Nat.le_refl _⟩⟩
theorem weights_all {H : Type} {ds : List (DataW H)} : ∀ {d : DataW H}, d ∈ ds → ∀ n ∈ d.weights P e, n ∈ DataW.weightsAll P e ds := by
  induction ds with
  | nil => intro d hd; cases hd
  | cons c ds ih =>
    intro d hd n hn
    simp only [DataW.weightsAll, List.mem_append]
    rcases List.mem_cons.1 hd with rfl | hd
    · exact .inl hn
    · exact .inr (ih hd n hn)
theorem bulk_all {H : Type} {bk : α → Nat} : ∀ {xs : List α} {ds : List (DataW H)}, xs.length = ds.length → (∀ (i : Nat) (x : α) (d : DataW H), xs[i]? = some x → ds[i]? = some d → bk x ≤ Rows.uptoBulk d) → (xs.map bk).sum ≤ Rows.uptoBulkAll ds
  | [], _, _, _ => by simp
  | x :: xs, d :: ds, hl, h => by
    have := bulk_all (xs := xs) (ds := ds) (by simpa using hl) (fun i x d hx hd => h (i + 1) x d (by simpa using hx) (by simpa using hd))
    have h0 := h 0 x d rfl rfl
    simp only [List.map_cons, List.sum_cons, Rows.uptoBulkAll]
    omega
  | _ :: _, [], hl, _ => by simp at hl
theorem Opens.slice {d : Kd α} {ok : α → Prop} {bk : α → Nat} {B : Nat} (ht : P.underlying t = some (.slice e)) (hc : P.cellsOf t = 1) (hB : P.bytesOf e = B) (he : Opens P e d ok bk) :
    Opens P t (Kd.slice e d) (fun xs => xs.length * B ≤ reachBytes ∧ ∀ x ∈ xs, ok x) (fun xs => (xs.map bk).sum + 1) :=
  ⟨hc, fun enc w base sp held fuel cs y h hw => by
    rcases DataW.trod_slice ht h with ⟨rfl, rfl⟩ | ⟨a, len, cap, elems, rest, n, rfl, rfl, rfl, hb, hlc, hcm, hl, hel, _⟩
    · exact ⟨[], ⟨none, 0, rfl, by simp, Kd.C_nil d w⟩, ⟨by simp [reachBytes], by simp⟩, by simp [Rows.uptoBulk]⟩
    · have hone : ∀ i, i < len → ∃ x, (∃ c, c.length = d.sz ∧ d.K w x c ∧ ∀ j u, c[j]? = some u → w.cell? (a.add (i * d.sz + j)) = some u) ∧ ok x ∧ ∀ z, elems[i]? = some z → bk x ≤ Rows.uptoBulk z.1 := by
        intro i hi
        have h1 := hel i hi
        obtain ⟨z, hz⟩ : ∃ z, elems[i]? = some z := ⟨elems[i]'(by omega), List.getElem?_eq_getElem (by omega)⟩
        rw [hz, Option.bind_eq_some_iff] at h1
        obtain ⟨c, hc1, hc2⟩ := h1
        obtain ⟨x, hx, hok, hbk⟩ := he.op enc w base sp held n c z hc2 (fun m hm => hw m (by
          simp only [DataW.weights, ht, List.mem_cons, List.mem_append]
          exact .inr (.inl (weights_all (List.mem_map.2 ⟨z, List.mem_of_getElem? hz, rfl⟩) m hm))))
        refine ⟨x, ⟨c, d.K_len hx, hx, fun j u hu => ?_⟩, hok, fun z' hz' => by rw [hz] at hz'; cases hz'; exact hbk⟩
        obtain ⟨_, h2, h3⟩ := World.cells?_some hc1
        rw [he.sz] at h2 h3
        have hj : j < d.sz := by rw [← h2]; exact (List.getElem?_eq_some_iff.1 hu).1
        rw [← hu, ← h3 j hj]
        rw [add_add]
      obtain ⟨xs, rfl, hxs⟩ := list_choose len hone
      refine ⟨xs, ⟨some a, cap, rfl, hlc, rfl, ?_, fun _ => ⟨a, rfl, fun j p hp => (hxs j p hp).1⟩⟩, ⟨?_, fun x hx => ?_⟩, ?_⟩
      · have : maxLen ≤ 9223372036854775807 := by decide
        omega
      · have := hw ((elems.map (·.1)).length * P.bytesOf e + (rest.map (·.1)).length * P.bytesOf e) (by simp only [DataW.weights, ht, List.mem_cons, Nat.add_mul, true_or])
        rw [List.length_map, hl, hB] at this
        omega
      · obtain ⟨i, hi⟩ := List.getElem?_of_mem hx
        exact (hxs i x hi).2.1
      · have := bulk_all (bk := bk) (xs := xs) (ds := elems.map (·.1)) (by simp [hl]) (fun i x d hx hd => by
          rw [List.getElem?_map, Option.map_eq_some_iff] at hd
          obtain ⟨z, hz, rfl⟩ := hd
          exact (hxs i x hx).2.2 z hz)
        simp only [Rows.uptoBulk]
        omega⟩
theorem OpensF.one {f : Field} {d : Kd α} {ok : α → Prop} {bk : α → Nat} (h : Opens P f.type d ok bk) : OpensF P [f] f.offset d ok bk :=
  ⟨fun enc w base sp held fuel cs xs hl hx hw => by
    match xs, hl with
    | [x], _ =>
      obtain ⟨z, k, o, b⟩ := h.op enc w base sp held fuel _ x (hx 0 f rfl) (fun n hn => hw n (by simpa [DataW.weightsEach] using hn))
      rw [h.sz] at k
      exact ⟨z, k, o, by simpa [Rows.uptoBulkAll] using b⟩⟩
theorem OpensF.cons {f : Field} {fs : List Field} {a : Kd α} {b : Kd β} {oka : α → Prop} {okb : β → Prop} {bka : α → Nat} {bkb : β → Nat} (h : Opens P f.type a oka bka) (k : OpensF P fs (f.offset + a.sz) b okb bkb) :
    OpensF P (f :: fs) f.offset (Kd.pair a b) (fun x => oka x.1 ∧ okb x.2) (fun x => bka x.1 + bkb x.2) :=
  ⟨fun enc w base sp held fuel cs xs hl hx hw => by
    match xs, hl with
    | y :: ys, hl =>
      obtain ⟨x0, k0, o0, b0⟩ := h.op enc w base sp held fuel _ y (hx 0 f rfl) (fun n hn => hw n (by simp only [List.map_cons, DataW.weightsEach, List.mem_append]; exact .inl hn))
      obtain ⟨x1, k1, o1, b1⟩ := k.op enc w base sp held fuel cs ys (by simpa using hl) (fun i g hg => by simpa using hx (i + 1) g (by simpa using hg)) (fun n hn => hw n (by simp only [List.map_cons, DataW.weightsEach, List.mem_append]; exact .inr hn))
      refine ⟨(x0, x1), ⟨_, _, ?_, k0, k1⟩, ⟨o0, o1⟩, by simp only [List.map_cons, Rows.uptoBulkAll]; omega⟩
      rw [h.sz, show (Kd.pair a b).sz = a.sz + b.sz from rfl, List.take_add, List.drop_drop]⟩
theorem Opens.struct {fs : Array Field} {d : Kd α} {ok : α → Prop} {bk : α → Nat} (ht : P.underlying t = some (.struct fs)) (hc : P.cellsOf t = d.sz) (h : OpensF P fs.toList 0 d ok bk) : Opens P t d ok (fun x => bk x + 1) :=
  ⟨hc, fun enc w base sp held fuel cs y hy hw => by
    obtain ⟨xs, n, rfl, rfl, hl, hx, hg⟩ := DataW.trod_struct ht hy
    obtain ⟨x, k, o, b⟩ := h.op enc w base sp held n cs xs (by simpa using hx) (fun i f hf => hg i f (by simpa using hf)) (fun n hn => hw n (by simpa [DataW.weights, ht] using hn))
    rw [List.drop_zero, List.take_of_length_le (by rw [hl, hc]; exact Nat.le_refl _)] at k
    exact ⟨x, k, o, by simp only [Rows.uptoBulk]; omega⟩⟩
theorem Opens.iso {d : Kd α} {ok : α → Prop} {bk : α → Nat} (h : Opens P t d ok bk) (f : β → α) (g : α → β) (hfg : ∀ x, f (g x) = x) : Opens P t (Kd.iso d f) (fun b => ok (f b)) (fun b => bk (f b)) :=
  ⟨h.sz, fun enc w base sp held fuel cs y hy hw => by
    obtain ⟨x, k, o, b⟩ := h.op enc w base sp held fuel cs y hy hw
    exact ⟨g x, by show d.K w (f (g x)) cs; rw [hfg]; exact k, by rw [hfg]; exact o, by rw [hfg]; exact b⟩⟩
theorem Opens.imp {d : Kd α} {ok ok' : α → Prop} {bk bk' : α → Nat} (h : Opens P t d ok bk) (hi : ∀ x, ok x → ok' x) (hb : ∀ x, bk' x ≤ bk x) : Opens P t d ok' bk' :=
  ⟨h.sz, fun enc w base sp held fuel cs y hy hw => let ⟨x, k, o, b⟩ := h.op enc w base sp held fuel cs y hy hw; ⟨x, k, hi x o, Nat.le_trans (hb x) b⟩⟩
end
section
variable {P : Program} {α : Type} {t e : TypeId} {H : Type} {enc : TypeId × Value → H} {w : World} {base b0 : Nat} {sp : Nat → Bool} {held : Bool} {r : Reach} {v : Value} {y : DataW H} {ps : List MemPlace}
theorem weight_at {ts : List TypeId} {ds : List (DataW H)} (h : (DataW.weightsEach P ts ds).all (· ≤ reachBytes) = true) {j : Nat} (ht : ts[j]? = some t) (hd : ds[j]? = some y) : ∀ n ∈ y.weights P t, n ≤ reachBytes := fun n hn => by
  simpa using List.all_eq_true.1 h _ (DataW.weights_mem_each ht hd n hn)
theorem Opens.struct_val {fs : Array Field} {d : Kd α} {ok : α → Prop} {bk : α → Nat} (h : Opens P t d ok bk) (ht : P.underlying t = some (.struct fs)) (hval : Value.okWide P w r b0 t v) (hd : DataW.Trod enc P w base sp held t v y ps) (hw : ∀ n ∈ y.weights P t, n ≤ reachBytes) :
    ∃ cs x, v = .agg cs ∧ d.K w x cs.toList ∧ ok x ∧ bk x ≤ Rows.uptoBulk y := by
  simp only [Value.okWide, ht] at hval
  obtain ⟨cs, rfl, _⟩ := hval
  obtain ⟨fuel, hf⟩ := hd
  obtain ⟨x, k, o, b⟩ := h.op enc w base sp held fuel _ _ hf hw
  exact ⟨cs, x, rfl, k, o, b⟩
end
end Go.Proofs.YtgaackedappmgaaDoor.K
