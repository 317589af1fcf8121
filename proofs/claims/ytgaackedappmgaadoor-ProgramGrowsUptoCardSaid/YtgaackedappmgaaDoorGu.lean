import Derived.Test.YtgaackedappmgaaDoorYq
import Derived.IntWalk
import Derived.BigQuiet
import Derived.Laws.Rows
import Derived.Test.YtgaackedappmgaaDoorYw
namespace Go.Proofs.YtgaackedappmgaaDoor.K
open Go.RowKit Go.Proofs.YtgaackedappmgaaDoorW.PrintWords Go.Proofs.YtgaackedappmgaaDoorW.PrintLast Go.Proofs.YtgaackedappmgaaDoorW.PrintMore
set_option linter.unusedVariables false
set_option linter.unusedSimpArgs false
set_option maxRecDepth 100000
def RApart (rs : List QR) : Prop := ∀ (i j : Nat) (a b : QR), i < j → rs[i]? = some a → rs[j]? = some b → (∀ g, (svl a.code).ownBlock = some g → (svl b.code).ownBlock = some g → False) ∧ (∀ g, (svl a.hnd).ownBlock = some g → (svl b.hnd).ownBlock = some g → False)
theorem RApart.any {rs : List QR} (h : RApart rs) {i j : Nat} {a b : QR} (hij : i ≠ j) (ha : rs[i]? = some a) (hb : rs[j]? = some b) : (∀ g, (svl a.code).ownBlock = some g → (svl b.code).ownBlock = some g → False) ∧ (∀ g, (svl a.hnd).ownBlock = some g → (svl b.hnd).ownBlock = some g → False) := by
  rcases Nat.lt_or_gt_of_ne hij with h1 | h1
  · exact h i j a b h1 ha hb
  · obtain ⟨x, y⟩ := h j i b a h1 hb ha
    exact ⟨fun g p q => x g q p, fun g p q => y g q p⟩
theorem RApart.nil : RApart [] := fun i j a b _ h => by simp at h
theorem RApart.add {rs : List QR} {r : QR} (h : RApart rs) (hn : ∀ (i : Nat) (a : QR), rs[i]? = some a → (∀ g, (svl a.code).ownBlock = some g → (svl r.code).ownBlock = some g → False) ∧ (∀ g, (svl a.hnd).ownBlock = some g → (svl r.hnd).ownBlock = some g → False)) : RApart (rs ++ [r]) := fun i j a b hij ha hb => by
  have hjl := (List.getElem?_eq_some_iff.1 hb).1
  rw [List.length_append, List.length_singleton] at hjl
  rw [List.getElem?_append_left (by omega)] at ha
  rcases Nat.lt_or_ge j rs.length with h1 | h1
  · rw [List.getElem?_append_left h1] at hb
    exact h i j a b hij ha hb
  · obtain rfl : j = rs.length := by omega
    rw [List.getElem?_append_right (Nat.le_refl _)] at hb
    simp at hb
    subst hb
    exact hn i a ha
theorem RApart.set {rs : List QR} {k : Nat} {r r' : QR} (h : RApart rs) (hk : rs[k]? = some r) (hn : ∀ (i : Nat) (a : QR), i ≠ k → rs[i]? = some a → (∀ g, (svl a.code).ownBlock = some g → (svl r'.code).ownBlock = some g → False) ∧ (∀ g, (svl a.hnd).ownBlock = some g → (svl r'.hnd).ownBlock = some g → False)) : RApart (rs.set k r') := fun i j a b hij ha hb => by
  have hkl := (List.getElem?_eq_some_iff.1 hk).1
  by_cases h1 : k = i
  · subst h1
    rw [List.getElem?_set, if_pos rfl, if_pos hkl] at ha
    injection ha with ha
    subst ha
    rw [List.getElem?_set_ne (by omega)] at hb
    obtain ⟨x, y⟩ := hn j b (by omega) hb
    exact ⟨fun g p q => x g q p, fun g p q => y g q p⟩
  · rw [List.getElem?_set_ne h1] at ha
    by_cases h2 : k = j
    · subst h2
      rw [List.getElem?_set, if_pos rfl, if_pos hkl] at hb
      injection hb with hb
      subst hb
      exact hn i a (by omega) ha
    · rw [List.getElem?_set_ne h2] at hb
      exact h i j a b hij ha hb
theorem POwn.hitI {w w' : World} {lo gI n c k : Nat} {vC vF : SV} {p : QP} {rs : List QR} {r : QR} {f f' : QF} (h : POwn w lo vC vF p rs) (ha : RApart rs) (hx : rs[k]? = some r) (hf : p.funcs[k]? = some f) (he : r.code = (some ⟨gI, 0, none⟩, n, c)) (hs : Chg (fun b => b = gI) w w') (hf' : f'.name = f.name ∧ f'.pars = f.pars ∧ f'.locs = f.locs ∧ f'.hnd = f.hnd) (ho : Oq kQI 50 w lo (some ⟨gI, 0, none⟩, n, c) f.code → Oq kQI 50 w' lo (some ⟨gI, 0, none⟩, n, c) f'.code) : POwn w' lo vC vF ⟨p.consts, p.funcs.set k f'⟩ rs := by
  obtain ⟨a1, a2, a3, a4, a5⟩ := h.fn.2 k r f hx hf
  rw [he] at a4
  obtain ⟨cs, hcs⟩ := Kd.R_typed a4.1 gI rfl
  have hh : ∀ {ts : List TypeId}, 50 ∉ ts → HitsQ w lo (fun b => b = gI) ts := fun ht b cs' t hb _ hq hm => by
    subst hb
    rw [hcs] at hq
    injection hq with hq
    injection hq with _ hq
    rw [hq] at ht
    exact ht hm
  have hkl := (List.getElem?_eq_some_iff.1 hf).1
  refine ⟨h.cs.hit hs (hh (ts := [39]) (by decide)) (by decide), h.fs.hit hs (hh (ts := [47]) (by decide)) (by decide), by simp only [List.length_set]; exact h.fn.1, fun i a g hi hg => ?_⟩
  simp only at hg
  by_cases e : k = i
  · subst e
    rw [hx] at hi
    rw [List.getElem?_set, if_pos rfl, if_pos hkl] at hg
    injection hi with hi
    injection hg with hg
    subst hi hg
    exact ⟨by rw [hf'.1]; exact a1, by rw [hf'.2.1]; exact a2, by rw [hf'.2.2.1]; exact a3, by rw [he]; exact ho a4, by rw [hf'.2.2.2]; exact a5.hit hs (hh (ts := [54]) (by decide)) (by decide)⟩
  · rw [List.getElem?_set_ne e] at hg
    obtain ⟨b1, b2, b3, b4, b5⟩ := h.fn.2 i a g hi hg
    exact ⟨b1, b2, b3, b4.chg hs (fun b hb hS => (ha.any e hx hi).1 gI (by rw [he]; rfl) (by rw [hb, hS])), b5.hit hs (hh (ts := [54]) (by decide)) (by decide)⟩
set_option maxHeartbeats 4000000
theorem ref_CopyProgramA (w : World) (cA fA : Option Addr) (cc fc : Nat) (p : QP) (rs : List QR) (hP : PV w cA fA p rs) (hn : p.consts.length ≤ 1048576) (hm : p.funcs.length ≤ 1048576) (hcode : ∀ f ∈ p.funcs, f.code.length ≤ 1048576 ∧ f.hnd.length ≤ 1048576) :
    Calls Tryd.prog 14 #[.agg #[.slice cA p.consts.length cc, .slice fA p.funcs.length fc]] w fun e w' => ∃ (vC vF : SV) (rs' : List QR), e = .returned (.agg #[svl vC, svl vF]) ∧ (POwn w' w.heap.size vC vF p rs' ∧ RApart rs') ∧ Chg (fun _ => False) w w' := by
  have hPA := Aside0.mk hP
  have hco := Aside0.mk hcode
  have hrl := hP.fs.1
  clear hP hcode
  go_enter Tryd.func14, Tryd.ntmps14
  go_wp2
  generalize hW : World.alloc (World.alloc (World.alloc w _) _) _ = W0
  have hc0 : Aside0 (Chg (fun _ => False) w W0) := ⟨by rw [← hW]; exact (((Chg.refl _ w).alloc _).alloc _).alloc _⟩
  have hb1 : Aside0 (W0.heap[w.heap.size]? = some (.cells #[.slice cA p.consts.length cc, .slice fA p.funcs.length fc] 25 (0, 0))) := ⟨by rw [← hW]; exact (((Chg.refl (fun _ => False) (w.alloc _)).alloc _).alloc _).blk (heap_alloc_new w _) (fun e => e)⟩
  have hb2 : Aside0 (W0.heap[w.heap.size + 1]? = some (.cells #[.slice none 0 0, .slice none 0 0] 25 (0, 0))) := ⟨by rw [← hW]; exact ((Chg.refl (fun _ => False) ((w.alloc _).alloc _)).alloc _).blk (heap_alloc2_new w _ _) (fun e => e)⟩
  have hb3 : W0.heap[w.heap.size + 1 + 1]? = some (.cells #[.slice none 0 0, .slice none 0 0] 25 (0, 0)) := by
    rw [← hW]
    exact heap_alloc3 w _ _ _
  obtain ⟨b3, hb3E⟩ : ∃ b3, b3 = w.heap.size + 1 + 1 := ⟨_, rfl⟩
  rw [← hb3E] at hb3 ⊢
  obtain ⟨b2, hb2E⟩ : ∃ b2, b2 = w.heap.size + 1 := ⟨_, rfl⟩
  rw [← hb2E] at hb2 ⊢
  have hbo : Aside0 (w.heap.size < b2 ∧ b2 < b3) := ⟨by omega⟩
  clear hb3E hb2E
  have hL0 : Aside0 (LQ W0 W0 b3 (none, 0, 0) (none, 0, 0) [] []) := ⟨⟨hb3, Kd.R_nil _ _ _ _ _, Kd.R_nil _ _ _ _ _, fun b h => by simp [svl, Value.ownBlock] at h, fun b h => by simp [svl, Value.ownBlock] at h, Chg.refl _ _, blk_lt hb3⟩⟩
  clear hW hb3
  go_loopw [4] (fun ix wr => ∃ (k n c : Nat) (A : Option Addr), ix = .int .i64 k ∧ k ≤ p.consts.length ∧ Aside0 (LQ W0 wr b3 (A, n, c) (none, 0, 0) (p.consts.take k) [])) (fun ix _ => p.consts.length - (intOf ix).toNat)
  case atStart => exact ⟨0, 0, 0, none, rfl, by omega, hL0⟩
  case round =>
    obtain ⟨k, n, c, A, rfl, hk, hL⟩ := hrel
    have hbp := hL.out.ch.blk hb1.out (by have := hbo.out; omega)
    obtain ⟨p0, p1⟩ : wr.cell? ⟨w.heap.size, 0, none⟩ = some (.slice cA p.consts.length cc) ∧ wr.cell? ⟨w.heap.size, 1, none⟩ = some (.slice fA p.funcs.length fc) := ⟨blk_cell hbp 0, blk_cell hbp 1⟩
    obtain ⟨y0, y1⟩ : wr.cell? ⟨b3, 0, none⟩ = some (.slice A n c) ∧ wr.cell? ⟨b3, 1, none⟩ = some (.slice none 0 0) := ⟨blk_cell hL.out.q 0, blk_cell hL.out.q 1⟩
    clear hbp
    by_cases hlt : k < p.consts.length
    · have hk0 : (0 : Int) ≤ k := by omega
      have hk1 : (k : Int) < p.consts.length := by omega
      have hCw : Aside0 (Chg (fun _ => False) w wr) := ⟨hc0.out.trans hL.out.ch (fun b hb e => by have := hbo.out; omega)⟩
      obtain ⟨ad, kd1, n1, t1, e1, e2, x0w, x1w, x2w⟩ := kQC_at hPA.out.cs k hlt
      subst e1
      have x0 := cell_keepQ hCw.out (fun h => h) x0w
      have x1 := cell_keepQ hCw.out (fun h => h) x1w
      have x2 := cell_keepQ hCw.out (fun h => h) x2w
      have ht : Aside0 (p.consts.take (k + 1) = p.consts.take k ++ [⟨kd1, n1, t1⟩]) := ⟨by rw [List.take_succ_eq_append_getElem hlt]; rw [List.getElem?_eq_getElem hlt] at e2; injection e2 with e2; rw [e2]⟩
      clear e2
      have hl : Aside0 (((p.consts.take k).length + 1) * 32 ≤ 140737488355328) := ⟨by rw [List.length_take]; omega⟩
      have hRd := own_new hL.out.rc
      have hCd : Aside0 (Chg (fun b => (svl (A, n, c)).ownBlock = some b) wr wr.drew) := ⟨(Chg.refl _ _).drew⟩
      have hno0 : Aside0 (¬ (svl (A, n, c)).ownBlock = some b3) := ⟨fun e => by have := hL.out.oc _ e; have := hL.out.lt; have := hbo.out; omega⟩
      have hno1 : Aside0 (¬ (svl (A, n, c)).ownBlock = some w.heap.size) := ⟨fun e => by have := hL.out.oc _ e; have := hL.out.lt; have := hbo.out; omega⟩
      have hno2 : Aside0 (¬ (svl (A, n, c)).ownBlock = some (ad.add (k * 3)).block) := ⟨fun e => by have h1 := World.block_lt_of_cell? w _ x0w; have h2 := hL.out.oc _ e; have h3 := hc0.out.size; omega⟩
      clear x0w x1w x2w
      go_wp2
      refine start_ (n := 11) (S := fun w' => w'.cell? ⟨b3, 0, none⟩ = some (.slice A n c) ∧ w'.cell? ⟨w.heap.size, 0, none⟩ = some (.slice (some ad) p.consts.length cc) ∧ w'.cell? (ad.add (k * 3)) = some (.int .i64 kd1) ∧ w'.cell? ⟨(ad.add (k * 3)).block, (ad.add (k * 3)).off + 1, none⟩ = some (.int .i64 n1) ∧ w'.cell? ⟨(ad.add (k * 3)).block, (ad.add (k * 3)).off + 2, none⟩ = some (.string t1)) (ds := [10]) #[false, false, false, false, false, false, false, false, false, false, false] (by kernel_rfl) rfl rfl ⟨y0, p0, x0, x1, x2⟩ (fun hHeld => ?_)
      refine pure_ (i := 0) (N := some 14) (v := ?_) (a' := ?_) #[true, false, false, false, false, false, false, false, false, false, false] rfl rfl (by kernel_rfl) (fun _ _ _ h => h) (Or.inl ⟨by rfl, ?_⟩) ?_ ?_
      rotate_left
      · intro w'
        go_simp
        with_reducible rfl
      rotate_left
      · simp only [Act.put, List.setIfInBounds_toArray, List.set_cons_zero, List.set_cons_succ, i64_w, i32_w]
        rfl
      refine pure_ (i := 2) (N := some 16) (v := ?_) (a' := ?_) #[true, false, true, false, false, false, false, false, false, false, false] rfl rfl (by kernel_rfl) (fun _ _ _ h => h) (Or.inl ⟨by rfl, ?_⟩) ?_ ?_
      rotate_left
      · intro w'
        go_simp
        with_reducible rfl
      rotate_left
      · simp only [Act.put, List.setIfInBounds_toArray, List.set_cons_zero, List.set_cons_succ, i64_w, i32_w]
        rfl
      refine pure_ (i := 4) (N := some 18) (v := ?_) (a' := ?_) #[true, false, true, false, true, false, false, false, false, false, false] rfl rfl (by kernel_rfl) (fun _ _ _ h => h) (Or.inl ⟨by rfl, ?_⟩) ?_ ?_
      rotate_left
      · intro w'
        go_simp
        with_reducible rfl
      rotate_left
      · simp only [Act.put, List.setIfInBounds_toArray, List.set_cons_zero, List.set_cons_succ, i64_w, i32_w]
        rfl
      refine take_ (i := 1) (N := some 15) (v := ?_) (a' := ?_) #[true, true, true, false, true, false, false, false, false, false, false] rfl rfl (by kernel_rfl) (fun _ _ _ h => h) (Or.inl ⟨by rfl, ?_⟩) hHeld ?_ ?_
      rotate_left
      · rintro w' ⟨s0, s1, s2, s3, s4⟩
        go_simp
        with_reducible rfl
      rotate_left
      · simp only [Act.put, List.setIfInBounds_toArray, List.set_cons_zero, List.set_cons_succ, i64_w, i32_w]
        rfl
      refine take_ (i := 3) (N := some 17) (v := ?_) (a' := ?_) #[true, true, true, true, true, false, false, false, false, false, false] rfl rfl (by kernel_rfl) (fun _ _ _ h => h) (Or.inl ⟨by rfl, ?_⟩) hHeld ?_ ?_
      rotate_left
      · rintro w' ⟨s0, s1, s2, s3, s4⟩
        go_simp
        with_reducible rfl
      rotate_left
      · simp only [Act.put, List.setIfInBounds_toArray, List.set_cons_zero, List.set_cons_succ, i64_w, i32_w]
        rfl
      refine pure_ (i := 5) (N := some 19) (v := ?_) (a' := ?_) #[true, true, true, true, true, true, false, false, false, false, false] rfl rfl (by kernel_rfl) (fun _ _ _ h => h) (Or.inl ⟨by rfl, ?_⟩) ?_ ?_
      rotate_left
      · intro w'
        go_simp
        with_reducible rfl
      rotate_left
      · simp only [Act.put, List.setIfInBounds_toArray, List.set_cons_zero, List.set_cons_succ, i64_w, i32_w]
        rfl
      refine take_ (i := 6) (N := some 20) (v := ?_) (a' := ?_) #[true, true, true, true, true, true, true, false, false, false, false] rfl rfl (by kernel_rfl) (fun _ _ _ h => h) (Or.inl ⟨by rfl, ?_⟩) hHeld ?_ ?_
      rotate_left
      · rintro w' ⟨s0, s1, s2, s3, s4⟩
        go_simp
        with_reducible rfl
      rotate_left
      · simp only [Act.put, List.setIfInBounds_toArray, List.set_cons_zero, List.set_cons_succ, i64_w, i32_w]
        rfl
      refine one_ (i := 7) (N := some 21) #[true, true, true, true, true, true, true, true, false, false, false] rfl rfl (by kernel_rfl) (by decide) (fun K hK => ?_)
      refine value_ (w1 := ?_) (v := ?_) (by rfl) rfl ?_ ?_
      rotate_left 2
      · go_simp
        constructor
        · rfl
        · rfl
      refine hK.out _ _ ⟨(cellQ hHeld.1 _), (cellQ hHeld.2.1 _), (cellQ hHeld.2.2.1 _), (cellQ hHeld.2.2.2.1 _), (cellQ hHeld.2.2.2.2 _)⟩ (fun hHeld => ?_)
      clear hK K
      refine norm_ (a' := ?_) ?_ ?_
      rotate_left
      · show Act.put _ (some 21) _ = _
        simp only [Act.put, List.setIfInBounds_toArray, List.set_cons_zero, List.set_cons_succ, i64_w, i32_w]
        rfl
      refine one_ (i := 8) (N := some 22) #[true, true, true, true, true, true, true, true, true, false, false] rfl rfl (by kernel_rfl) (by decide) (fun K hK => ?_)
      refine app1T kQC (by rfl) (.tmp 15) (.tmp 21) (by rfl) Tryd.underlying22 infoQC rfl (by decide) (by decide) ⟨kd1, n1, t1⟩ (by rfl) (by rfl) (kQC_M _ _ _ _) hRd hCd hl ?_
      intro v1 w1 hr2 hc2
      obtain ⟨A2, n2, c2, rfl⟩ := R_sl hr2.out
      have fz := blk_frozen (hc2.out.blk hL.out.q hno0.out) 0
      refine hK.out _ _ ⟨(cell_keepQ hc2.out hno0.out y0), (cell_keepQ hc2.out hno1.out p0), (cell_keepQ hc2.out hno2.out x0), (cell_keepQ hc2.out hno2.out x1), (cell_keepQ hc2.out hno2.out x2)⟩ (fun hHeld => ?_)
      clear hK K
      refine norm_ (a' := ?_) ?_ ?_
      rotate_left
      · show Act.put _ (some 22) _ = _
        simp only [Act.put, List.setIfInBounds_toArray, List.set_cons_zero, List.set_cons_succ, i64_w, i32_w]
        rfl
      refine pure_ (i := 9) (N := some 23) (v := ?_) (a' := ?_) #[true, true, true, true, true, true, true, true, true, true, false] rfl rfl (by kernel_rfl) (fun _ _ _ h => h) (Or.inl ⟨by rfl, ?_⟩) ?_ ?_
      rotate_left
      · intro w'
        go_simp
        with_reducible rfl
      rotate_left
      · simp only [Act.put, List.setIfInBounds_toArray, List.set_cons_zero, List.set_cons_succ, i64_w, i32_w]
        rfl
      refine last_ (i := 10) (N := none) #[true, true, true, true, true, true, true, true, true, true, true] rfl rfl (by kernel_rfl) (by decide) (fun K hK => ?_)
      refine skip_ (w1 := ?_) (by rfl) rfl ?_ ?_
      rotate_left
      · go_simp
        rfl
      refine hK.out _ _ ?_
      clear hK K
      refine done_ (by kernel_rfl) ?_
      go_wp2
      go_roundw
      case measure => first | (simp [intOf]; done) | (simp [intOf]; omega)
      case rel => exact ⟨k + 1, n2, c2, A2, by go_num, by omega, ⟨by rw [ht.out]; exact hL.out.addC (v' := (A2, n2, c2)) hc2.out hr2.out⟩⟩
    · obtain rfl : k = p.consts.length := by omega
      have hk1 : ¬ ((p.consts.length : Int) < p.consts.length) := by omega
      have hL2 : Aside0 (LQ W0 wr b3 (A, n, c) (none, 0, 0) p.consts []) := ⟨by have h := hL.out; rw [List.take_length] at h; exact h⟩
      clear hL hlt
      go_wp2
      clear p0 p1 y0 y1 hk1
      obtain ⟨wo, hwo⟩ : ∃ wo : World, wo = wr := ⟨wr, rfl⟩
      subst hwo
      go_loopw [5] (fun ix wr => ∃ (k m d : Nat) (B : Option Addr) (ms : List QR), ix = .int .i64 k ∧ k ≤ p.funcs.length ∧ Aside0 (LQ W0 wr b3 (A, n, c) (B, m, d) p.consts ms) ∧ Aside0 (FCq wr W0.heap.size ms (p.funcs.take k) ∧ RApart ms)) (fun ix _ => p.funcs.length - (intOf ix).toNat)
      case atStart => exact ⟨0, 0, 0, none, [], rfl, by omega, hL2, ⟨⟨rfl, fun k r f h => by simp at h⟩, RApart.nil⟩⟩
      case round =>
        obtain ⟨k, m, d, B, ms, rfl, hk, hL, hFA⟩ := hrel
        have hF := Aside0.mk hFA.out.1
        have hAp := Aside0.mk hFA.out.2
        clear hFA
        have hbp := hL.out.ch.blk hb1.out (by have := hbo.out; omega)
        have p1 : wr.cell? ⟨w.heap.size, 1, none⟩ = some (.slice fA p.funcs.length fc) := blk_cell hbp 1
        clear hbp
        by_cases hlt : k < p.funcs.length
        · have hk0 : (0 : Int) ≤ k := by omega
          have hk1 : (k : Int) < p.funcs.length := by omega
          have hCw : Aside0 (Chg (fun _ => False) w wr) := ⟨hc0.out.trans hL.out.ch (fun b hb e => by have := hbo.out; omega)⟩
          obtain ⟨f, hfx⟩ : ∃ f, p.funcs[k]? = some f := ⟨_, List.getElem?_eq_getElem hlt⟩
          obtain ⟨fd, ⟨nm, pa, lo, ⟨kA, kN, kC⟩, ⟨hA, hN, hC⟩⟩, e1, e2, x0, x1, x2, x3, x4⟩ := raw_at (hPA.out.below (hCw.out.below (fun _ _ h => h))).fs k hlt
          obtain ⟨r1, r2, r3, r4, r5⟩ := (hPA.out.below (hCw.out.below (fun _ _ h => h))).raw k _ f e2 hfx
          have r6 := r4.1
          have r7 := r5.1
          simp only at r1 r2 r3 r6 r7 x0 x1 x2 x3 x4
          subst e1 r1 r2 r3 r6 r7
          have hfk := Aside0.mk r4
          have hfh := Aside0.mk r5
          have hfb := Aside0.mk (hco.out f (List.mem_of_getElem? hfx))
          have hfA := Aside0.mk hfx
          have hml : Aside0 (ms.length = k) := ⟨by rw [hF.out.1, List.length_take]; omega⟩
          clear e2 hfx r4 r5
          go_upto_region 10 with (go_at_call 33; go_must (refine (ref_CopyFunctionQ _ f kA hA kC hC hfk.out hfh.out hfb.out.1 hfb.out.2).mono ?_); go_must (rintro e w2 ⟨⟨iA, iN, iC⟩, ⟨jA, jN, jC⟩, rfl, oi1, ok1, hc1⟩); go_must (simp only [svl]); go_must (replace hc1 := Aside0.mk hc1); go_must (replace oi1 := Aside0.mk oi1); go_must (replace ok1 := Aside0.mk ok1))
          (try simp only [Act.put, List.setIfInBounds_toArray, List.set_cons_zero, List.set_cons_succ])
          generalize hW : World.alloc w2 _ = W3
          have B3 : Aside0 (W3.heap[w2.heap.size]? = some (.cells #[.string f.name, .int .i64 f.pars, .int .i64 f.locs, .slice iA iN iC, .slice jA jN jC] 47)) := ⟨by rw [← hW]; exact heap_alloc_new w2 _⟩
          have hz9 : Aside0 (Chg (fun _ => False) w2 W3) := ⟨by rw [← hW]; exact cg⟩
          clear hW
          clear x0 x1 x2 x3 x4 p1
          have hz3 : Aside0 (Chg (fun _ => False) wr W3) := ⟨hc1.out.trans hz9.out (fun _ _ h => h)⟩
          have hL3 : Aside0 (LQ W0 W3 b3 (A, n, c) (B, m, d) p.consts ms) := ⟨hL.out.chg hz3.out⟩
          have hF3 := Aside0.mk (hF.out.hit hz3.out (HitsQ.no))
          have oi3 := Aside0.mk ((oi1.out.chg hz9.out (fun _ _ h => h)).mono (Nat.le_refl _))
          have ok3 := Aside0.mk ((ok1.out.chg hz9.out (fun _ _ h => h)).mono (Nat.le_refl _))
          have hlo : Aside0 (W0.heap.size ≤ wr.heap.size) := ⟨hL.out.ch.size⟩
          have y1 : W3.cell? ⟨b3, 1, none⟩ = some (.slice B m d) := blk_cell hL3.out.q 1
          have g0 : W3.cell? ⟨w2.heap.size, 0, none⟩ = some (.string f.name) := blk_cell B3.out 0
          have g1 : W3.cell? ⟨w2.heap.size, 1, none⟩ = some (.int .i64 f.pars) := blk_cell B3.out 1
          have g2 : W3.cell? ⟨w2.heap.size, 2, none⟩ = some (.int .i64 f.locs) := blk_cell B3.out 2
          have g3 : W3.cell? ⟨w2.heap.size, 3, none⟩ = some (.slice iA iN iC) := blk_cell B3.out 3
          have g4 : W3.cell? ⟨w2.heap.size, 4, none⟩ = some (.slice jA jN jC) := blk_cell B3.out 4
          have hl : Aside0 ((ms.length + 1) * 80 ≤ 140737488355328) := ⟨by rw [hml.out]; omega⟩
          have hRd := own_new0 hL3.out.rf
          have hCd : Aside0 (Chg (fun b => (svl (B, m, d)).ownBlock = some b) W3 W3) := ⟨Chg.refl _ _⟩
          have hno0 : Aside0 (¬ (svl (B, m, d)).ownBlock = some b3) := ⟨fun e => by have := hL3.out.of _ e; have := hL3.out.lt; omega⟩
          have hApN : Aside0 (RApart (ms ++ [(⟨f.name, f.pars, f.locs, (iA, iN, iC), (jA, jN, jC)⟩ : QR)])) := ⟨hAp.out.add (fun i a hi => by
            have hil := (List.getElem?_eq_some_iff.1 hi).1
            obtain ⟨g, hg⟩ : ∃ g, (p.funcs.take k)[i]? = some g := ⟨_, List.getElem?_eq_getElem (by rw [← hF.out.1]; exact hil)⟩
            obtain ⟨_, _, _, a4, a5⟩ := hF.out.2 i a g hi hg
            exact ⟨fun b h1 h2 => by have := a4.lt b h1; have := oi1.out.2 b h2; omega, fun b h1 h2 => by have := a5.lt b h1; have := ok1.out.2 b h2; omega⟩)⟩
          clear oi1 ok1 hz9 hL hF hAp
          go_wp2_with (at_builtin; go_must (refine app1 kQR rfl (.tmp 38) (.tmp 40) rfl Tryd.underlying23 infoQR rfl (by decide) (by decide) ⟨f.name, f.pars, f.locs, (iA, iN, iC), (jA, jN, jC)⟩ rfl rfl (kQR_M _ _ _ _) hRd hCd hl ?_); go_must (intro v1 w5 hr2 hc2); go_must (obtain ⟨A2, n2, c2, rfl⟩ := R_sl hr2.out); go_must (have hbq := hc2.out.blk hL3.out.q hno0.out); go_must (have y1' : w5.cell? ⟨b3, 1, none⟩ = some (.slice B m d) := blk_cell hbq 1); go_must (have fz := blk_frozen hbq 1); go_must (clear hbq))
          go_roundw
          case measure => first | (simp [intOf]; done) | (simp [intOf]; omega)
          case rel =>
            have hs : Chg (fun b => b = b3) w5 (w5.setCell ⟨b3, 1, none⟩ (.slice A2 n2 c2)) := (Chg.refl (fun b => b = b3) w5).setCell (p := ⟨b3, 1, none⟩) (fun _ => rfl) _
            have hb3q := hc2.out.blk hL3.out.q hno0.out
            have hof : Oq kQR 47 W3 W0.heap.size (B, m, d) ms := ⟨hL3.out.rf, hL3.out.of⟩
            have key : ∀ {α : Type} {kd : Kd α} {e : TypeId} {v : SV} {xs : List α}, Oq kd e W3 W0.heap.size v xs → e ≠ 47 → e ≠ 25 → Oq kd e (w5.setCell ⟨b3, 1, none⟩ (.slice A2 n2 c2)) W0.heap.size v xs := fun ho h1 h2 => by
              have h5 := ho.chg hc2.out (fun b hb hS => Oq.ne ho hof h1 b hb hS)
              exact h5.chg hs (fun b hb e => Oq.ne_blk h5 hb3q h2 hb e)
            refine ⟨k + 1, n2, c2, A2, ms ++ [(⟨f.name, f.pars, f.locs, (iA, iN, iC), (jA, jN, jC)⟩ : QR)], by go_num, by omega, ⟨hL3.out.addF (v' := (A2, n2, c2)) hc2.out hr2.out⟩, ⟨?_⟩⟩
            have hFn : FCq (w5.setCell ⟨b3, 1, none⟩ (.slice A2 n2 c2)) W0.heap.size ms (p.funcs.take k) := ⟨hF3.out.1, fun j r g h1 h2 => by
              obtain ⟨a1, a2, a3, a4, a5⟩ := hF3.out.2 j r g h1 h2
              exact ⟨a1, a2, a3, key a4 (by decide) (by decide), key a5 (by decide) (by decide)⟩⟩
            refine ⟨?_, hApN.out⟩
            exact pair_stepQ (R := fun (r : QR) (f : QF) => r.name = f.name ∧ r.pars = f.pars ∧ r.locs = f.locs ∧ Oq kQI 50 (w5.setCell ⟨b3, 1, none⟩ (.slice A2 n2 c2)) W0.heap.size r.code f.code ∧ Oq kQH 54 (w5.setCell ⟨b3, 1, none⟩ (.slice A2 n2 c2)) W0.heap.size r.hnd f.hnd) hFn hfA.out ⟨rfl, rfl, rfl, key (oi3.out.mono hlo.out) (by decide) (by decide), key (ok3.out.mono hlo.out) (by decide) (by decide)⟩
        · obtain rfl : k = p.funcs.length := by omega
          have hk1 : ¬ ((p.funcs.length : Int) < p.funcs.length) := by omega
          have hFl : Aside0 (FCq wr W0.heap.size ms p.funcs) := ⟨by have h := hF.out; rw [List.take_length] at h; exact h⟩
          have hAl := Aside0.mk hAp.out
          have hb2r := hL.out.ch.blk hb2.out (by have := hbo.out; omega)
          have y0 : wr.cell? ⟨b3, 0, none⟩ = some (.slice A n c) := blk_cell hL.out.q 0
          have y1 : wr.cell? ⟨b3, 1, none⟩ = some (.slice B m d) := blk_cell hL.out.q 1
          have t0 := blk_cell hb2r 0
          have t1 := blk_cell hb2r 1
          have u0 := blk_frozen hb2r 0
          have u1 := blk_frozen hb2r 1
          replace hb2r := Aside0.mk hb2r
          clear hF hAp
          go_wp2
          (try simp only [Exit.inBlock, Exit.then])
          refine bodyPost_ret (results_cell1 rfl _ _ _ _ rfl _ (run_loadVar_row _ _ _ _ _ _ _ (blk_set (blk_set hb2r.out 0 (.slice A n c)) 1 (.slice B m d)) Tryd.underlying25 rfl (by kernel_rfl))) rfl ?_
          have hfin := (Chg.setCell (Chg.setCell (Chg.refl (fun k => k = b2) wr) (p := ⟨b2, 0, none⟩) (fun _ => rfl) (.slice A n c)) (p := ⟨b2, 1, none⟩) (fun _ => rfl) (.slice B m d))
          have hlow : w.heap.size ≤ W0.heap.size := hc0.out.size
          have hob : b2 < W0.heap.size := by have := hL.out.lt; have := hbo.out; omega
          refine ⟨A, n, c, B, m, d, rfl, ⟨ms, ?_, hAl.out⟩, (hc0.out.trans hL.out.ch (fun b hb e => by have := hbo.out; omega)).trans hfin (fun b hb e => by have := hbo.out; omega)⟩
          have hown : POwn wr W0.heap.size (A, n, c) (B, m, d) p ms := ⟨⟨hL.out.rc, hL.out.oc⟩, ⟨hL.out.rf, hL.out.of⟩, hFl.out⟩
          have h5 := hown.hit hfin (HitsQ.old (fun b e => by omega))
          exact ⟨h5.cs.mono hlow, h5.fs.mono hlow, ⟨h5.fn.1, fun k r f h1 h2 => by
            obtain ⟨a1, a2, a3, a4, a5⟩ := h5.fn.2 k r f h1 h2
            exact ⟨a1, a2, a3, a4.mono hlow, a5.mono hlow⟩⟩⟩
end Go.Proofs.YtgaackedappmgaaDoor.K

namespace Go.Proofs.YtgaackedappmgaaDoor.K
open Go.RowKit Go.Proofs.YtgaackedappmgaaDoorW.PrintWords Go.Proofs.YtgaackedappmgaaDoorW.PrintLast Go.Proofs.YtgaackedappmgaaDoorW.PrintMore
set_option linter.unusedVariables false
set_option linter.unusedSimpArgs false
set_option maxRecDepth 100000
theorem firstBad_ne {α : Type} {f : Nat → α → Int} : ∀ {l : List α} {i j : Nat} {e : Int}, firstBad f i l = some (j, e) → e ≠ 0
  | [], i, j, e, h => by cases h
  | x :: xs, i, j, e, h => by
    rw [firstBad] at h
    by_cases hx : f i x ≠ 0
    · rw [if_pos hx] at h
      injection h with h
      injection h with h1 h2
      rw [← h2]; exact hx
    · rw [if_neg hx] at h
      exact firstBad_ne h
theorem rest_ok {p : QP} {f : QF} (h : (restQ p f).2 = 0) : (∀ (j : Nat) (i : QI), f.code[j]? = some i → instrP chkP p f i = 0) ∧ f.hnd.length ≤ 32 ∧ ∀ (j : Nat) (x : QH), f.hnd[j]? = some x → handlerQ x f.code.length = true := by
  unfold restQ at h
  cases h1 : firstBad (fun _ i => instrP chkP p f i) 0 f.code with
  | some z =>
    obtain ⟨i, e⟩ := z
    rw [h1] at h
    exact absurd h (firstBad_ne h1)
  | none =>
    rw [h1] at h
    simp only at h
    by_cases h2 : 32 < f.hnd.length
    · rw [if_pos h2] at h
      exact absurd h (by decide)
    rw [if_neg h2] at h
    cases h3 : firstBad (fun _ h => if handlerQ h f.code.length = true then 0 else 8) 0 f.hnd with
    | some z =>
      obtain ⟨i, e⟩ := z
      rw [h3] at h
      exact absurd h (firstBad_ne h3)
    | none =>
      refine ⟨fun j i hi => ?_, by omega, fun j x hx => ?_⟩
      · exact firstBad_all h1 j i hi
      · have h4 := firstBad_all h3 j x hx
        (try simp only at h4)
        by_cases h5 : handlerQ x f.code.length = true
        · exact h5
        · rw [if_neg h5] at h4
          exact absurd h4 (by decide)
theorem rest_is {p : QP} {f : QF} (h1 : ∀ (j : Nat) (i : QI), f.code[j]? = some i → instrP chkP p f i = 0) (h2 : f.hnd.length ≤ 32) (h3 : ∀ (j : Nat) (x : QH), f.hnd[j]? = some x → handlerQ x f.code.length = true) : restQ p f = (0, 0) := by
  unfold restQ
  rw [firstBad_none (f := fun _ i => instrP chkP p f i) (fun k x hx => h1 k x hx)]
  simp only
  rw [if_neg (by omega), firstBad_none (f := fun _ h => if handlerQ h f.code.length = true then 0 else 8) (fun k x hx => by (try simp only); rw [if_pos (h3 k x hx)])]
theorem instr_same {p p' : QP} {f f' : QF} (hc : p'.consts = p.consts) (hl : p'.funcs.length = p.funcs.length) (hk : f'.code.length = f.code.length) (hlo : f'.locs = f.locs) (i : QI) : instrP chkP p' f' i = instrP chkP p f i := by
  unfold instrP namesP
  rw [hc, hl, hk, hlo]
theorem rest_code_ok {p p' : QP} {f f' : QF} {pc : Nat} {i : QI} (hr : (restQ p f).2 = 0) (hc : p'.consts = p.consts) (hl : p'.funcs.length = p.funcs.length) (h1 : f'.locs = f.locs) (h2 : f'.code = f.code.set pc i) (hb : instrP chkP p f i = 0) (h3 : f'.hnd.length ≤ 32) (h4 : ∀ (j : Nat) (x : QH), f'.hnd[j]? = some x → handlerQ x f.code.length = true) : restQ p' f' = (0, 0) := by
  have hn : f'.code.length = f.code.length := by rw [h2, List.length_set]
  obtain ⟨a1, _, _⟩ := rest_ok hr
  refine rest_is (fun j x hx => ?_) h3 (fun j x hx => by rw [hn]; exact h4 j x hx)
  rw [instr_same hc hl hn h1]
  rw [h2, List.getElem?_set] at hx
  by_cases e : pc = j
  · rw [if_pos e] at hx
    by_cases e2 : pc < f.code.length
    · rw [if_pos (by omega)] at hx
      injection hx with hx
      rw [← hx]; exact hb
    · rw [if_neg (by omega)] at hx
      cases hx
  · rw [if_neg e] at hx
    exact a1 j x hx
theorem rest_hnd_ok {p p' : QP} {f f' : QF} (hr : (restQ p f).2 = 0) (hc : p'.consts = p.consts) (hl : p'.funcs.length = p.funcs.length) (h1 : f'.locs = f.locs) (h2 : f'.code = f.code) (h3 : f'.hnd.length ≤ 32) (h4 : ∀ (j : Nat) (x : QH), f'.hnd[j]? = some x → handlerQ x f.code.length = true) : restQ p' f' = (0, 0) := by
  obtain ⟨a1, _, _⟩ := rest_ok hr
  refine rest_is (fun j x hx => ?_) h3 (fun j x hx => by rw [h2]; exact h4 j x hx)
  rw [instr_same hc hl (by rw [h2]) h1]
  rw [h2] at hx
  exact a1 j x hx
theorem rest_head {p p' : QP} {k : Nat} {f f' : QF} (h : FnOk p k f) (e1 : f'.pars = f.pars) (e2 : f'.locs = f.locs) (e3 : f'.code.length = f.code.length) : restP p' k f' = restQ p' f' := by
  unfold restP
  rw [e1, e2, e3, if_neg (by rintro (h1 | h1 | h1); exact absurd h1 (by have := h.p0; omega); exact absurd h1 (by have := h.pl; omega); exact h1.2 (h.pk h1.1)), if_neg (by have := h.l64; omega), if_neg (by have := h.c0; omega), if_neg (by have := h.c1; omega)]
theorem functionP_names {p p' : QP} {j : Nat} {f : QF} (hc : p'.consts = p.consts) (hm : p'.funcs.map QF.name = p.funcs.map QF.name) : functionP chkP p' j f = functionP chkP p j f := by
  have hl : p'.funcs.length = p.funcs.length := by have := congrArg List.length hm; simpa using this
  have h2 : instrP chkP p' f = instrP chkP p f := by
    funext i
    exact instr_same hc hl rfl rfl i
  have ha : ∀ (l : List QF), l.any (fun g => decide (g.name = f.name)) = (l.map QF.name).any (fun s => decide (s = f.name)) := fun l => by rw [List.any_map]; rfl
  have h3 : headP p' j f = headP p j f := by
    unfold headP
    rw [ha, ha, List.map_take, List.map_take, hm]
  unfold functionP
  rw [h2, h3]
theorem map_name_set {l : List QF} {k : Nat} {f f' : QF} (hk : l[k]? = some f) (hn : f'.name = f.name) : (l.set k f').map QF.name = l.map QF.name := by
  refine List.ext_getElem? (fun i => ?_)
  rw [List.getElem?_map, List.getElem?_map, List.getElem?_set]
  by_cases e : k = i
  · subst e
    rw [if_pos rfl, if_pos (List.getElem?_eq_some_iff.1 hk).1, hk]
    simp [hn]
  · rw [if_neg e]
theorem fits_set {p : QP} {k : Nat} {f f' : QF} (h : Fits p) (hk : p.funcs[k]? = some f) (hn : f'.name = f.name) (hf : (functionP chkP ⟨p.consts, p.funcs.set k f'⟩ k f').2 = 0) : Fits ⟨p.consts, p.funcs.set k f'⟩ :=
  ⟨h.nc, h.cs, by simp only [List.length_set]; exact h.nf, by simp only [List.length_set]; exact h.mf, fun j g hg => by
    simp only at hg
    by_cases e : k = j
    · subst e
      rw [List.getElem?_set, if_pos rfl, if_pos (List.getElem?_eq_some_iff.1 hk).1] at hg
      injection hg with hg
      subst hg
      exact hf
    · rw [List.getElem?_set_ne e] at hg
      rw [functionP_names (p := p) (p' := ⟨p.consts, p.funcs.set k f'⟩) rfl (map_name_set hk hn)]
      exact h.fs j g hg⟩
theorem fn_is {p : QP} {k : Nat} {f f' : QF} {x : Int × Int} (h : FnOk p k f) (hk : k < p.funcs.length) (hn : f'.name = f.name) (e1 : f'.pars = f.pars) (e2 : f'.locs = f.locs) (e3 : f'.code.length = f.code.length) (hx : restQ ⟨p.consts, p.funcs.set k f'⟩ f' = x) : functionP chkP ⟨p.consts, p.funcs.set k f'⟩ k f' = x :=
  (fn_rest h hk hn).trans ((rest_head h e1 e2 e3).trans hx)
theorem good_nop {p : QP} {f : QF} : instrP chkP p f ⟨0, 0⟩ = 0 := by
  have he : efP 0 0 = true := by decide +kernel
  have hr : (rowP 0).kind = 0 := by decide +kernel
  unfold instrP chkP namesP
  simp only
  rw [he, hr]
  simp
end Go.Proofs.YtgaackedappmgaaDoor.K
