import Derived.Test.YtdoghjmanogelaaProg
import Derived.Test.YtdoghjmanogelaaWMore
import Derived.Test.YtdoghjmanogelaaWKept
import Derived.Test.YtdoghjmanogelaaWSized
import Derived.WalkLawsBesides
import Derived.WalkSpells
import Derived.Outline
namespace Go.Proofs.Ytdoghjmanogelaa.K
open Go.RowKit Go.Proofs.YtdoghjmanogelaaW.PrintWords Go.Proofs.YtdoghjmanogelaaW.PrintLast Go.Proofs.YtdoghjmanogelaaW.PrintMore
set_option linter.unusedVariables false
set_option linter.unusedSimpArgs false

/-- Of what was there, S alone may have turned. -/
structure Chg (S : Nat → Prop) (w w' : World) : Prop where
  os : w'.os = w.os
  tape : w'.tape = w.tape
  output : w'.output = w.output
  size : w.heap.size ≤ w'.heap.size
  block : ∀ k, k < w.heap.size → ¬ S k → w'.heap[k]? = w.heap[k]?

namespace Chg
variable {S S' T : Nat → Prop} {a b c : World}
theorem refl (S : Nat → Prop) (w : World) : Chg S w w := ⟨rfl, rfl, rfl, Nat.le_refl _, fun _ _ _ => rfl⟩
theorem trans (h : Chg S a b) (k : Chg T b c) (hs : ∀ i, i < a.heap.size → T i → S i) : Chg S a c :=
  ⟨k.os.trans h.os, k.tape.trans h.tape, k.output.trans h.output, Nat.le_trans h.size k.size,
    fun i hi hn => (k.block i (Nat.lt_of_lt_of_le hi h.size) (fun ht => hn (hs i hi ht))).trans (h.block i hi hn)⟩
theorem mono (h : Chg S a b) (hs : ∀ i, i < a.heap.size → S i → S' i) : Chg S' a b := ⟨h.os, h.tape, h.output, h.size, fun i hi hn => h.block i hi (fun ht => hn (hs i hi ht))⟩
theorem drew (h : Chg S a b) : Chg S a b.drew := ⟨h.os, h.tape, h.output, h.size, h.block⟩
theorem drewN (h : Chg S a b) (n : Nat) : Chg S a (b.drewN n) := ⟨h.os, h.tape, h.output, h.size, h.block⟩
theorem alloc (h : Chg S a b) (o : Obj) : Chg S a (b.alloc o) :=
  h.trans (T := fun _ => False) ⟨rfl, rfl, rfl, by simp, fun k hk _ => Below.heap_alloc _ _ _ hk⟩ (fun _ _ h => h.elim)
theorem setCell (h : Chg S a b) {p : Addr} (hp : p.block < a.heap.size → S p.block) (u : Value) : Chg S a (b.setCell p u) :=
  h.trans (T := fun k => k = p.block) ⟨rfl, rfl, rfl, by simp [World.setCell], fun k hk hn => Below.heap_setCell _ _ _ _ hn⟩ (fun i hi e => by subst e; exact hp hi)
theorem grown {row : Option Nat} (h : Chg S a b) (hg : b.grownBy c row) (hr : ∀ k, k < a.heap.size → row = some k → S k) : Chg S a c :=
  h.trans (T := fun k => row = some k) ⟨hg.os, hg.tape, hg.output, hg.size, fun k hk hn => hg.block k hk (fun e => hn e.symm)⟩ hr
theorem below (h : Chg S a b) (hs : ∀ i, i < a.heap.size → ¬ S i) : Below a.heap.size a b := ⟨h.os, h.tape, h.output, h.size, fun k hk => h.block k hk (hs k hk)⟩
theorem of_below (h : Below a.heap.size a b) : Chg S a b := ⟨h.os, h.tape, h.output, h.size, fun k hk _ => h.block k hk⟩
theorem zero (h : Chg S a b) : Below 0 a b := ⟨h.os, h.tape, h.output, h.size, fun k hk => absurd hk (Nat.not_lt_zero _)⟩
theorem blk (h : Chg S a b) {g : Nat} {o : Obj} (hb : a.heap[g]? = some o) (hn : ¬ S g) : b.heap[g]? = some o := (h.block g (blk_lt hb) hn).trans hb
end Chg

/-- What was there, and what is new. -/
def New (F : Nat → Prop) (w w' : World) : Nat → Prop := fun k => F k ∨ (w.heap.size ≤ k ∧ k < w'.heap.size)

section
variable {α : Type} {d : Kd α} {e base : Nat} {ok S : Nat → Prop} {w w' : World} {v : Value} {xs : List α}
theorem R_chg (h : d.R e w base ok v xs) (hc : Chg S w w') (hd : ∀ k, k < w.heap.size → ok k → ¬ S k) : d.R e w' base ok v xs :=
  Kd.R_step h (fun k ho hk => hc.block k hk (hd k hk ho))
theorem R_sl (h : d.R e w base ok v xs) : ∃ A n c, v = .slice A n c := by
  obtain ⟨A, c, h⟩ := Kd.R_slice h
  exact ⟨A, _, c, h⟩
theorem C_chg {A : Option Addr} {n : Nat} (h : d.C w A n xs) (hb : Below w.heap.size w w') : d.C w' A n xs := Kd.C_below h hb
end

theorem New.lift {F : Nat → Prop} {w a b : World} (h : a.heap.size ≤ b.heap.size) : ∀ k, New F w a k → New F w b k := fun k hk => hk.imp id (fun h1 => ⟨h1.1, Nat.lt_of_lt_of_le h1.2 h⟩)

section
variable {P : Program} {ops : Array Oper} {rest : List Oper} {o : Oper} {a : Act} {Q : Exit → Act → World → Prop} {α : Type}
/-- append(v, p): v is of F or new since w; so is the answer. -/
theorem app1 (d : Kd α) {w W : World} {F : Nat → Prop} (hgd : o.guard = none) (s x : Operand) {t e : TypeId} {z : Value} {bytes : Nat}
    (ho : o.op = .call { callee := .builtin .append, args := #[s, x], argTypes := #[t, t] })
    (ht : P.underlying t = some (.slice e)) (hinfo : (P.info? e).map (fun i => (i.zero, i.size, i.bytes)) = some (some z, d.sz, bytes)) (hz : z.cells.size = d.sz) (hs0 : 0 < d.sz) (hb0 : 0 < bytes)
    {v : Value} {xs : List α} (p : α) {cs : List Value} (hs : a.eval s = v) (hx : a.eval x = .slice (some ⟨W.heap.size, 0, none⟩) 1 1) (hp : d.M W 0 (fun _ => False) p cs)
    (HO : Aside0 (d.R e W 0 (New F w W) v xs)) (HC : Aside0 (Chg F w W)) (hl : Aside0 ((xs.length + 1) * bytes ≤ 140737488355328))
    (h : ∀ v1 w1, Aside0 (d.R e w1 0 (New F w w1) v1 (xs ++ [p])) → Aside0 (Chg F w w1) → wpList P ops Q rest (a.put o.dst v1) w1) :
    wpList P ops Q (o :: rest) a (W.alloc (.cells cs.toArray e)) := by
  refine Kd.R_append d (w0 := w) 0 hgd s x t e z bytes ho ht hinfo hz hs0 hb0 v xs p cs (fun k => F k ∨ w.heap.size ≤ k) (fun _ => False) hs hx hp (fun _ hk => hk.elim) (fun k hk => .inr (Nat.le_trans HC.out.size hk)) (Kd.R_mono HO.out (fun k hk => hk.imp id And.left)) HC.out.zero (Nat.zero_le _) hl.out ?_
  intro v1 w1 hr1 _ hg1 _
  refine h v1 w1 ⟨Kd.R_mono (Kd.R_bound hr1) (fun k hk => hk.1.imp id (fun h => ⟨h, hk.2.2.1⟩))⟩ ⟨HC.out.grown hg1 (fun k hk hr => ?_)⟩
  rcases HO.out.1 k hr with h1 | h1
  · exact h1
  · omega
/-- append(v, ys...): elements that name no rows. -/
theorem appN (d : Kd α) {w W : World} {F : Nat → Prop} (hgd : o.guard = none) (s x : Operand) {t e : TypeId} {z : Value} {bytes : Nat}
    (ho : o.op = .call { callee := .builtin .append, args := #[s, x], argTypes := #[t, t] })
    (ht : P.underlying t = some (.slice e)) (hinfo : (P.info? e).map (fun i => (i.zero, i.size, i.bytes)) = some (some z, d.sz, bytes)) (hz : z.cells.size = d.sz) (hs0 : 0 < d.sz) (hb0 : 0 < bytes)
    {v : Value} {xs ys : List α} {A : Option Addr} {m c : Nat} (hs : a.eval s = v) (hx : a.eval x = .slice A m c)
    (HO : Aside0 (d.R e W 0 (New F w W) v xs)) (HR : Aside0 (d.C W A m ys)) (hKM : ∀ x cs, d.K W x cs → d.M W 0 (fun _ => False) x cs) (HC : Aside0 (Chg F w W)) (hl : Aside0 ((xs.length + m) * bytes ≤ 140737488355328))
    (h : ∀ v1 w1, Aside0 (d.R e w1 0 (New F w w1) v1 (xs ++ ys)) → Aside0 (Chg F w w1) → wpList P ops Q rest (a.put o.dst v1) w1) :
    wpList P ops Q (o :: rest) a W := by
  refine Kd.R_append_rows d (Rr := d.K W) (w0 := w) 0 hgd s x t e z bytes ho ht hinfo hz hs0 hb0 v xs ys A m c (fun k => F k ∨ w.heap.size ≤ k) (fun _ => False) hs hx (Kd.R_mono HO.out (fun k hk => hk.imp id And.left)) HR.out hKM (fun _ hk => hk.elim) (fun k hk => .inr (Nat.le_trans HC.out.size hk)) HC.out.zero (Nat.zero_le _) hl.out ?_
  intro v1 w1 hr1 _ hg1 _
  refine h v1 w1 ⟨Kd.R_mono (Kd.R_bound hr1) (fun k hk => hk.1.imp id (fun h => ⟨h, hk.2.2.1⟩))⟩ ⟨HC.out.grown hg1 (fun k hk hr => ?_)⟩
  rcases HO.out.1 k hr with h1 | h1
  · exact h1
  · omega
/-- append(v, y...), y a text: which block the answer has. -/
theorem appS_at (W : World) {t u ty e : TypeId} {i : TypeInfo} (ht : P.underlying t = some (.slice e)) (hu : P.underlying u = some .string) (hi : P.info? e = some i) (hz : i.zero = some (.int .u8 0)) (hsize : i.size = 1) (hby : i.bytes = 1)
    {v v1 : Value} {w1 : World} {xs : List Value} {n : Nat} (hown : W.ownsRow 0 e 1 v n xs) (y : ByteArray) (hl : n + y.size ≤ 140737488355328) (hr : (Builtin.append_ #[t, u] ty #[v, .string y]).run P W = .ok v1 w1)
    (hnil : v1 = .slice none 0 0 ↔ v = .slice none 0 0 ∧ y.size = 0) : v1.ownBlock = v.ownBlock ∨ v1.ownBlock = some W.heap.size := by
  rcases hown.2 with ⟨rfl, rfl⟩ | ⟨g, cap, cur, rfl, hbg, hg, hnc, hcm, hcs, htake⟩
  · by_cases hm : y.size = 0
    · rw [hnil.2 ⟨rfl, hm⟩]; exact .inl rfl
    · have h2 := run_append_nil_string (P := P) W t u ty e i (.int .u8 0) ht hu hi hz y (by omega) (by omega) (by rw [hby]; omega)
      rw [h2] at hr
      injection hr with hv _
      rw [← hv]
      exact .inr rfl
  · by_cases hroom : n + y.size ≤ cap
    · have hcs' : cur.size = cap := by simpa using hcs
      have h2 := Lib.run_append_room_string (P := P) W t u ty e i ht hu hi hsize g n cap cur hg y hroom (by omega)
      rw [h2] at hr
      injection hr with hv _
      rw [← hv]
      exact .inl rfl
    · have holds : ∀ j u, xs[j]? = some u → W.cell? ((⟨g, 0, none⟩ : Addr).add j) = some u := hown.cells (g := g) rfl
      have h2 := Lib.run_append_grow_string (P := P) W t u ty e i (.int .u8 0) ht hu hi hz ⟨g, 0, none⟩ n cap xs (by rw [hsize]; simpa using hown.1) holds y (by omega) (by omega) (by rw [hby]; exact growslice_fits (by omega) (by omega))
      rw [h2] at hr
      injection hr with hv _
      rw [← hv]
      exact .inr rfl
/-- append(v, y...), y a text. -/
theorem appS {w W : World} {F : Nat → Prop} (hgd : o.guard = none) (s x : Operand) {t u e : TypeId}
    (ho : o.op = .call { callee := .builtin .append, args := #[s, x], argTypes := #[t, u] })
    (ht : P.underlying t = some (.slice e)) (hu : P.underlying u = some .string) (hinfo : (P.info? e).map (fun i => (i.zero, i.size, i.bytes)) = some (some (.int .u8 0), 1, 1))
    {v : Value} {xs : List Int} {y : ByteArray} (hs : a.eval s = v) (hx : a.eval x = .string y)
    (HO : Aside0 ((Kd.int .u8).R e W 0 (New F w W) v xs)) (HC : Aside0 (Chg F w W)) (hl : Aside0 (xs.length + y.size ≤ 140737488355328))
    (h : ∀ v1 w1, Aside0 ((Kd.int .u8).R e w1 0 (New F w w1) v1 (xs ++ bytesOf y)) → Aside0 (Chg F w w1) → wpList P ops Q rest (a.put o.dst v1) w1) :
    wpList P ops Q (o :: rest) a W := by
  have hown : W.ownsRow 0 e 1 v xs.length (nums .u8 xs) := by
    have := Kd.own_of_R HO.out
    exact this
  obtain ⟨i0, hi, hzz⟩ := Option.map_eq_some_iff.1 hinfo
  simp only [Prod.mk.injEq] at hzz
  obtain ⟨hz0, hz1, hz2⟩ := hzz
  obtain ⟨v1, w1, hr, hown1, hg, hnil⟩ := Lib.run_append_own_string (P := P) W 0 t u o.type e i0 ht hu hi hz0 hz1 hz2 v xs.length (nums .u8 xs) hown y (by have := hl.out; simp only [maxLen]; omega) hl.out (Nat.zero_le _)
  have hb := appS_at W ht hu hi hz0 hz1 hz2 hown y hl.out hr hnil
  have hat : ∀ k, v1.ownBlock = some k → F k ∨ w.heap.size ≤ k := by
    intro k hk
    rcases hb with hb | hb
    · exact (HO.out.1 k (hb.symm.trans hk)).imp id And.left
    · rw [hb] at hk
      injection hk with hk
      exact .inr (hk ▸ HC.out.size)
  have hl2 : (xs ++ bytesOf y).length = xs.length + y.size := by rw [List.length_append, bytesOf_length]
  have hc : nums .u8 (xs ++ bytesOf y) = nums .u8 xs ++ Lib.strCells y := by
    rw [nums_append]
    congr 1
    simp [nums, bytesOf, Lib.strCells]
  have hr1 : (Kd.int .u8).R e w1 0 (fun k => F k ∨ w.heap.size ≤ k) v1 (xs ++ bytesOf y) := Kd.R_of_own (enc := Value.int .u8) (by rw [hl2]; show w1.ownsRow 0 e 1 v1 _ (nums .u8 (xs ++ bytesOf y)); rw [hc]; exact hown1) hat
  refine wpList_plain hgd fun K hK => ?_
  unfold Oper.wp execOp
  simp only [ho, resolve, invoke, builtin, Sem.run_bind, Sem.run_pure, Result.andThen_ok, List.map_toArray, List.map_cons, List.map_nil, hs, hx, hr]
  refine hK _ _ (h v1 w1 ⟨Kd.R_mono (Kd.R_bound hr1) (fun k hk => hk.1.imp id (fun h => ⟨h, hk.2.2.1⟩))⟩ ⟨HC.out.grown hg (fun k hk hr => ?_)⟩)
  rcases HO.out.1 k hr with h1 | h1
  · exact h1
  · omega
end

theorem made0 {α : Type} (d : Kd α) (w : World) (e : TypeId) : d.R e (w.alloc (.cells #[] e)) 0 (New (fun _ => False) w (w.alloc (.cells #[] e))) (.slice (some ⟨w.heap.size, 0, none⟩) 0 0) ([] : List α) := by
  refine ⟨fun k hk => ?_, [], World.ownsRow_made w #[] 0 (Nat.zero_le _) (by simp [maxLen]) (by simp), Reps.none _ _⟩
  simp [Value.ownBlock] at hk
  exact .inr ⟨by omega, by simp; omega⟩

theorem C_nil_eq {α : Type} {d : Kd α} {n : Nat} {l : List α} {w : World} (h : d.C w none n l) : l = [] ∧ n = 0 := by
  have h0 : n = 0 := by
    rcases Nat.eq_zero_or_pos n with h0 | h0
    · exact h0
    · obtain ⟨ad, h, _⟩ := h.2.2 h0
      cases h
  exact ⟨List.eq_nil_of_length_eq_zero (h.1.trans h0), h0⟩

/-- The bytes of a number to the base 256, the highest first. -/
def be (x : Int) : Nat → List Int
  | 0 => []
  | n + 1 => (x / 2 ^ (8 * n) % 256) :: be x n
theorem be_length (x : Int) : ∀ n, (be x n).length = n
  | 0 => rfl
  | n + 1 => by simp [be, be_length x n]
end Go.Proofs.Ytdoghjmanogelaa.K
