import Derived.Test.YthmghcjkmmhgnaaLf
namespace Go.Proofs.Ythmghcjkmmhgnaa.K
open Go.RowKit Go.Proofs.YthmghcjkmmhgnaaW.PrintWords Go.Proofs.YthmghcjkmmhgnaaW.PrintLast Go.Proofs.YthmghcjkmmhgnaaW.PrintMore
set_option linter.unusedVariables false
set_option linter.unusedSimpArgs false
set_option maxRecDepth 100000

/-- What one call of a reader answers, and where it stands then: the number, the text, the rest; what Raw hands out. -/
structure GotA where
  x : Int
  s : List Int
  e : Int
  l : List Int
  i : Nat
  err : Int
def pgetA (bs : List Int) (i : Nat) (err kind n : Int) : GotA :=
  if kind = 0 then let r := rrun (pNext bs) 0 i err; ⟨r.1, [], 0, [], r.2.1, r.2.2⟩
  else if kind = 1 then let r := rrun (pNum bs) 0 i err; ⟨r.1, [], 0, [], r.2.1, r.2.2⟩
  else if kind = 2 then let r := rrun (pNum bs) 0 i err; ⟨IntKind.u64.wrap (unfoldI r.1), [], 0, [], r.2.1, r.2.2⟩
  else if kind = 3 then let r := rrun (pWord bs) 0 i err; ⟨r.1, [], 0, [], r.2.1, r.2.2⟩
  else if kind = 4 then let r := rrun (pText bs n) [] i err; ⟨0, r.1, 0, [], r.2.1, r.2.2⟩
  else if kind = 5 then let r := rrun (pRaw bs n) [] i err; ⟨0, r.1, 0, r.1, r.2.1, r.2.2⟩
  else if kind = 6 then let r := rrun (pCount bs n) 0 i err; ⟨r.1, [], 0, [], r.2.1, r.2.2⟩
  else if kind = 7 then ⟨(bs.length : Int) - i, [], 0, [], i, err⟩
  else if kind = 8 then ⟨0, [], err, [], i, err⟩
  else ⟨0, [], rEnd bs i err, [], i, err⟩
theorem rr_count {bs : List Int} (hb : ∀ c ∈ bs, 0 ≤ c ∧ c < 256) (m : Int) (hm : m ≤ 9223372036854775807) (i : Nat) (err : Int) : 0 ≤ (rrun (pCount bs m) 0 i err).1 ∧ (rrun (pCount bs m) 0 i err).1 ≤ 9223372036854775807 := by
  rcases rrun_cases (pCount bs m) 0 i err with ⟨x, j, _, h2, h3⟩ | ⟨c, h1, _⟩
  · rw [h3]
    obtain ⟨h4, h5⟩ := pCount_num h2
    have := pNum_range hb h4
    simp only
    omega
  · rw [h1]; simp
theorem wrap_id {x : Int} (h0 : 0 ≤ x) (h1 : x ≤ 18446744073709551615) : IntKind.u64.wrap x = x := by
  show x % 18446744073709551616 = x
  omega
theorem strOfNums_nil' : strOfNums [] = ⟨#[]⟩ := rfl
theorem chg_drawn0 {S : Nat → Prop} {w w' : World} (h : Drawn0 w w') : Chg S w w' := by obtain ⟨_, rfl⟩ := h; exact (Chg.refl _ _).drewN _
theorem chg_eq {S : Nat → Prop} {w w' : World} (h : w = w') : Chg S w w' := by subst h; exact Chg.refl _ _
theorem cells3 {w : World} {g : Nat} {a b c : Value} {t : TypeId} (h : w.heap[g]? = some (.cells #[a, b, c] t (0, 0))) :
    w.cell? ⟨g, 0, none⟩ = some a ∧ w.cell? ⟨g, 1, none⟩ = some b ∧ w.cell? ⟨g, 2, none⟩ = some c ∧ w.frozen? ⟨g, 0, none⟩ = false ∧ w.frozen? ⟨g, 1, none⟩ = false ∧ w.frozen? ⟨g, 2, none⟩ = false :=
  ⟨blk_cell h 0, blk_cell h 1, blk_cell h 2, blk_frozen h 0, blk_frozen h 1, blk_frozen h 2⟩
theorem set3 {w : World} {g : Nat} {a b c x y z : Value} {t : TypeId} (h : w.heap[g]? = some (.cells #[a, b, c] t (0, 0))) :
    (((w.setCell ⟨g, 0, none⟩ x).setCell ⟨g, 1, none⟩ y).setCell ⟨g, 2, none⟩ z).heap[g]? = some (.cells #[x, y, z] t (0, 0)) ∧
      Chg (fun k => k = g) w (((w.setCell ⟨g, 0, none⟩ x).setCell ⟨g, 1, none⟩ y).setCell ⟨g, 2, none⟩ z) := by
  have h1 := blk_set h 0 x
  have h2 := blk_set h1 1 y
  have h3 := blk_set h2 2 z
  exact ⟨by simpa using h3, (((Chg.refl (fun k => k = g) w).setCell (p := ⟨g, 0, none⟩) (fun _ => rfl) x).setCell (p := ⟨g, 1, none⟩) (fun _ => rfl) y).setCell (p := ⟨g, 2, none⟩) (fun _ => rfl) z⟩
theorem results_cell2 {fn : Func} {c u : Tmp} {t : TypeId} (h : fn.results = #[.cell c t, .tmp u]) (tmps : Array Value) (P : Program) (w : World) (g : Nat) (hp : tmps.getD c undef = .pointer (some ⟨g, 0, none⟩)) (v : Value) (hl : (loadVar t ⟨g, 0, none⟩).run P w = .ok v w) :
    (results fn tmps).run P w = .ok (.tuple #[v, tmps.getD u undef]) w := by
  simp only [results, h]
  rw [Array.getD_eq_getD_getElem?] at hp
  simp [hp, asAddr, hl, Result.andThen]
theorem kit_num (w : World) (x : Int) : Calls Try.prog 32 #[.int .i64 x] w fun e w' => e = .returned (.int .i64 x) ∧ w' = w := by
  go_enter Try.func32, Try.ntmps32
  go_wp2
  go_ret
  exact ⟨rfl, rfl⟩